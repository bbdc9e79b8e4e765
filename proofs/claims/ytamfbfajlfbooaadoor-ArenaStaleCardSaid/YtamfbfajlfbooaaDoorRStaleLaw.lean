/- ArenaStale: the plain law: what is gone stays stale. -/
import Derived.Test.YtamfbfajlfbooaaDoorRArenaOps
set_option linter.unusedVariables false
set_option linter.unusedSimpArgs false
set_option linter.unusedSectionVars false
namespace Qs
open Qh
/-- An arena of n cells, none there, the first given i times. -/
structure StaleSt (n i : Nat) (l : List Cell) : Prop where
  len : l.length = n
  gone : ∀ (j : Nat) c, l[j]? = some c → c.here = false
  words : ∀ (j : Nat) c, l[j]? = some c → c.words.length = 4
  times : ∀ (j : Nat) c, l[j]? = some c → 0 ≤ c.times ∧ c.times ≤ (i : Int)
  first : ∃ c : Cell, l[0]? = some c ∧ c.times = (i : Int)
theorem StaleSt.start {n : Nat} (hn : 1 ≤ n) : StaleSt n 0 (List.replicate n freshCell) := by
  have h : ∀ (j : Nat) c, (List.replicate n freshCell)[j]? = some c → c = freshCell := fun j c hc => List.eq_of_mem_replicate (List.mem_of_getElem? hc)
  refine ⟨by simp, fun j c hc => by rw [h j c hc]; rfl, fun j c hc => by rw [h j c hc]; rfl, fun j c hc => by rw [h j c hc]; exact ⟨by decide, by decide⟩, freshCell, by rw [List.getElem?_replicate, if_pos (by omega)], rfl⟩
theorem StaleSt.alloc {n i : Nat} {l : List Cell} (h : StaleSt n i l) : allocAt l 0 = some (0, (i : Int)) := by
  obtain ⟨c, hc, ht⟩ := h.first
  match l, hc with
  | x :: r, hc =>
    simp at hc; subst hc
    have := h.gone 0 x rfl
    unfold allocAt
    rw [this, ht]; rfl
theorem StaleSt.stale {n i : Nat} {l : List Cell} (h : StaleSt n i l) (c r : Int) : hereIn l c r = false := by
  unfold hereIn cellAt
  by_cases h0 : c < 0
  · rw [if_pos h0]
  · rw [if_neg h0]
    cases e : l[c.toNat]? with
    | none => rfl
    | some x => simp [h.gone _ x e]
theorem StaleSt.count {n i : Nat} {l : List Cell} (h : StaleSt n i l) : (l.filter (·.here)).length = 0 := by
  rw [List.length_eq_zero_iff, List.filter_eq_nil_iff]
  intro x hx
  obtain ⟨j, hj⟩ := List.getElem?_of_mem hx
  simp [h.gone j x hj]
theorem StaleSt.next {n i : Nat} {l : List Cell} (h : StaleSt n i l) {c : Cell} (hc : c.words.length = 4 ∧ c.times = (i : Int) + 1 ∧ c.here = false) : StaleSt n (i + 1) (l.set 0 c) := by
  have hl0 : 0 < l.length := by obtain ⟨c, hc, _⟩ := h.first; exact (List.getElem?_eq_some_iff.1 hc).1
  have hg : ∀ (j : Nat) x, (l.set 0 c)[j]? = some x → x = c ∨ l[j]? = some x := fun j x hx => by
    rw [List.getElem?_set] at hx
    by_cases e : 0 = j
    · subst e; simp [hl0] at hx; exact .inl hx.symm
    · rw [if_neg e] at hx; exact .inr hx
  refine ⟨by simp [h.len], fun j x hx => ?_, fun j x hx => ?_, fun j x hx => ?_, c, by simp [hl0], by rw [hc.2.1]; simp⟩
  · rcases hg j x hx with rfl | e
    · exact hc.2.2
    · exact h.gone j x e
  · rcases hg j x hx with rfl | e
    · exact hc.1
    · exact h.words j x e
  · rcases hg j x hx with rfl | e
    · rw [hc.2.1]; omega
    · have := h.times j x e; omega
theorem StaleSt.ok {n i : Nat} {l : List Cell} (h : StaleSt n i l) (hi : i ≤ 1000) : ∀ (j : Nat) c, l[j]? = some c → 0 ≤ c.times ∧ c.times ≤ 1000000000 := fun j c hc => by
  have := h.times j c hc; omega
theorem stale_round {n i : Nat} {l : List Cell} {c : Cell} (h : StaleSt n i l) (hc : l[0]? = some c) (hi : i ≤ 60) (hct : c.times = (i : Int)) :
    ∃ l2 l3, setWord (l.set 0 (givenCell c)) 0 0 (i : Int) = l2 ∧ l2.modify 0 (fun y => { y with here := false }) = l3 ∧ Go.Proofs.YtamfbfajlfbooaaDoor.storeE (l.set 0 (givenCell c)) 0 (i : Int) 0 (i : Int) = 0 ∧ hereIn l2 0 (i : Int) = true ∧ StaleSt n (i + 1) l3 ∧
      (l.set 0 (givenCell c)).length = n ∧ l2.length = n ∧ Go.Proofs.YtamfbfajlfbooaaDoor.timesOk (l.set 0 (givenCell c)) ∧ Go.Proofs.YtamfbfajlfbooaaDoor.timesOk l2 ∧ Go.Proofs.YtamfbfajlfbooaaDoor.wordsOk (l.set 0 (givenCell c)) := by
  have hl0 : 0 < l.length := (List.getElem?_eq_some_iff.1 hc).1
  have g1 : (l.set 0 (givenCell c))[0]? = some (givenCell c) := by rw [List.getElem?_set]; simp [hl0]
  have e2 : setWord (l.set 0 (givenCell c)) 0 0 (i : Int) = l.set 0 ⟨[(i : Int), 0, 0, 0], c.times + 1, true⟩ := by
    rw [Go.Proofs.YtamfbfajlfbooaaDoor.setWord_at g1, List.set_set]; rfl
  have g2 : (l.set 0 (⟨[(i : Int), 0, 0, 0], c.times + 1, true⟩ : Cell))[0]? = some ⟨[(i : Int), 0, 0, 0], c.times + 1, true⟩ := by rw [List.getElem?_set]; simp [hl0]
  have e3 : (l.set 0 (⟨[(i : Int), 0, 0, 0], c.times + 1, true⟩ : Cell)).modify 0 (fun y => { y with here := false }) = l.set 0 ⟨[(i : Int), 0, 0, 0], c.times + 1, false⟩ := by
    rw [Go.Proofs.YtamfbfajlfbooaaDoor.modify_at g2, List.set_set]
  have hmem : ∀ (x : Cell) (j : Nat) y, (l.set 0 x)[j]? = some y → y = x ∨ l[j]? = some y := fun x j y hy => by
    rw [List.getElem?_set] at hy
    by_cases e : 0 = j
    · subst e; simp [hl0] at hy; exact .inl hy.symm
    · rw [if_neg e] at hy; exact .inr hy
  have hto : ∀ x : Cell, x.times = (i : Int) + 1 → Go.Proofs.YtamfbfajlfbooaaDoor.timesOk (l.set 0 x) := fun x hx j y hy => by
    rcases hmem x j y hy with rfl | e
    · omega
    · have := h.times j y e; omega
  have hw : isWord (i : Int) = true := by simp only [isWord, W32, Bool.and_eq_true, decide_eq_true_eq]; omega
  have hin1 : hereIn (l.set 0 (givenCell c)) 0 (i : Int) = true := by
    have e : cellAt (l.set 0 (givenCell c)) 0 = some (givenCell c) := by unfold cellAt; rw [if_neg (by omega)]; exact g1
    unfold hereIn; rw [e]; simp [givenCell, hct]
  have hin2 : hereIn (l.set 0 (⟨[(i : Int), 0, 0, 0], c.times + 1, true⟩ : Cell)) 0 (i : Int) = true := by
    have e : cellAt (l.set 0 (⟨[(i : Int), 0, 0, 0], c.times + 1, true⟩ : Cell)) 0 = some ⟨[(i : Int), 0, 0, 0], c.times + 1, true⟩ := by unfold cellAt; rw [if_neg (by omega)]; exact g2
    unfold hereIn; rw [e]; simp [hct]
  refine ⟨_, _, e2, e3, ?_, hin2, h.next ⟨rfl, by simp [hct], rfl⟩, by simp [h.len], by simp [h.len], hto _ (by simp [givenCell, hct]), hto _ (by simp [hct]), fun j y hy => ?_⟩
  · unfold Go.Proofs.YtamfbfajlfbooaaDoor.storeE
    rw [if_pos hin1, if_pos ⟨by omega, by omega⟩, if_pos hw]
  · rcases hmem _ j y hy with rfl | e
    · rfl
    · exact h.words j y e
end Qs
namespace Qh
open Qs Go
/-- The refs of a cell's first i times. -/
def staleV (_ : Nat) (k : Nat) : List Value := [iv 0, iv (k : Nat)]
theorem staleV_len (s k : Nat) : (staleV s k).length = 2 := rfl
theorem staleV_snoc (i : Nat) : flat staleV 0 (List.range (i + 1)) = flat staleV 0 (List.range i) ++ [iv 0, iv (i : Nat)] := by
  have h : ∀ (l : List Nat) (x s : Nat), flat staleV s (l ++ [x]) = flat staleV s l ++ staleV 0 x := by
    intro l
    induction l with
    | nil => intro x s; simp [flat]; rfl
    | cons y l ih => intro x s; simp [flat, ih]
  rw [List.range_succ, h]; rfl
theorem staleV_get (m k j : Nat) (hk : k < m) (hj : j < 2) : (flat staleV 0 (List.range m))[k * 2 + j]? = ([iv 0, iv (k : Nat)] : List Value)[j]? := by
  have := flat_get staleV 2 staleV_len hj (List.range m) 0 k k (by simp [hk]) []
  rw [List.append_nil] at this
  exact this
theorem stale_cell {w : World} {T : TypeId} {gr m cap : Nat} (h : w.ownsRow 0 T 2 (.slice (some ⟨gr, 0, none⟩) m cap) m (flat staleV 0 (List.range m))) {k : Nat} (hk : k < m) :
    w.cell? ⟨gr, k * 2, none⟩ = some (.int .i64 0) ∧ w.cell? ⟨gr, k * 2 + 1, none⟩ = some (.int .i64 k) := by
  have hadd : ∀ j, (⟨gr, 0, none⟩ : Addr).add j = ⟨gr, 0 + j, none⟩ := fun j => by unfold Addr.add; split <;> simp_all
  have h0 := World.ownsRow.cells h (g := gr) rfl (k * 2 + 0) (iv 0) ((staleV_get m k 0 hk (by omega)).trans rfl)
  have h1 := World.ownsRow.cells h (g := gr) rfl (k * 2 + 1) (iv (k : Nat)) ((staleV_get m k 1 hk (by omega)).trans rfl)
  rw [hadd, Nat.zero_add] at h0 h1
  exact ⟨h0, h1⟩
end Qh
