/- The last store that waits, found from behind. -/
import Derived.Test.YtamfbfajlfbooaaDoorRPBack
set_option linter.unusedVariables false
set_option linter.unusedSimpArgs false
set_option linter.unusedSectionVars false
namespace Go.Proofs.YtamfbfajlfbooaaDoor
open Go.RowKit Qs Qh
def hit (c r W : Int) (y : Wt) : Prop := y.c = c ∧ y.g = r ∧ y.w = W
theorem look_none {c r W : Int} : ∀ (q : List Wt) (v : Int), (∀ y ∈ q, ¬ hit c r W y) → Qs.look q c r W v = v
  | [], v, _ => rfl
  | y :: q, v, h => by
    have hy : ¬ (y.c = c ∧ y.g = r ∧ y.w = W) := h y (by simp)
    unfold Qs.look
    simp only [List.foldl_cons]
    rw [if_neg hy]
    exact look_none q v fun z hz => h z (by simp [hz])
theorem look_at {c r W : Int} {q : List Wt} {j : Nat} {y : Wt} (v : Int) (hj : q[j]? = some y) (hy : hit c r W y) (hn : ∀ i z, j < i → q[i]? = some z → ¬ hit c r W z) : Qs.look q c r W v = y.v := by
  obtain ⟨hl, rfl⟩ := List.getElem?_eq_some_iff.1 hj
  have e : q = q.take j ++ (q[j] :: q.drop (j + 1)) := by rw [← List.drop_eq_getElem_cons hl, List.take_append_drop]
  have hy' : q[j].c = c ∧ q[j].g = r ∧ q[j].w = W := hy
  have : ∀ l1 l2 : List Wt, ∀ x : Wt, (x.c = c ∧ x.g = r ∧ x.w = W) → Qs.look (l1 ++ (x :: l2)) c r W v = Qs.look l2 c r W x.v := by
    intro l1 l2 x hx
    unfold Qs.look
    rw [List.foldl_append, List.foldl_cons, if_pos hx]
  conv => lhs; rw [e]
  rw [this _ _ _ hy']
  refine look_none _ _ fun z hz => ?_
  obtain ⟨i, hi⟩ := List.mem_iff_getElem?.1 hz
  rw [List.getElem?_drop] at hi
  exact hn (j + 1 + i) z (by omega) hi
theorem upto_mem {α : Type} {f : Nat → α} {k i : Nat} (h : i < k) : f i ∈ upto f k := by
  unfold upto; exact List.mem_map.2 ⟨i, by simpa using h, rfl⟩
theorem back_get {q : List Wt} {i : Nat} {z : Wt} (h : q[i]? = some z) : i < q.length ∧ backF q (q.length - 1 - i) = (i, z) := by
  have hl := (List.getElem?_eq_some_iff.1 h).1
  refine ⟨hl, ?_⟩
  unfold backF
  rw [show q.length - 1 - (q.length - 1 - i) = i by omega, h]; rfl
theorem look_all {c r W : Int} {q : List Wt} (v : Int) (h : ∀ y ∈ upto (backF q) q.length, ¬ hit c r W y.2) : Qs.look q c r W v = v := by
  refine look_none q v fun y hy => ?_
  obtain ⟨i, hi⟩ := List.mem_iff_getElem?.1 hy
  obtain ⟨hl, hb⟩ := back_get hi
  have := h _ (upto_mem (f := backF q) (k := q.length) (i := q.length - 1 - i) (by omega))
  rwa [hb] at this
theorem look_found {c r W : Int} {q : List Wt} {k : Nat} {pre : List (Nat × Wt)} {y : Nat × Wt} (v : Int) (hk : k ≤ q.length) (e : pre ++ [y] = upto (backF q) k) (hy : hit c r W y.2) (hn : ∀ z ∈ pre, ¬ hit c r W z.2) : Qs.look q c r W v = y.2.v := by
  cases k with
  | zero => have := congrArg List.length e; simp [upto_length] at this
  | succ k =>
    rw [upto_succ] at e
    obtain ⟨rfl, e2⟩ := List.append_inj' e rfl
    obtain rfl : y = backF q k := by simpa using e2
    have hj : q[q.length - 1 - k]? = some (backF q k).2 := by
      unfold backF
      rw [List.getElem?_eq_getElem (show q.length - 1 - k < q.length by omega)]; rfl
    refine look_at v hj hy fun i z hi hz => ?_
    obtain ⟨hl, hb⟩ := back_get hz
    have := hn _ (upto_mem (f := backF q) (k := k) (i := q.length - 1 - i) (by omega))
    rwa [hb] at this
end Go.Proofs.YtamfbfajlfbooaaDoor
