/- One thread alone: what it reads is what it stored last. -/
import Derived.Test.YtamfbfajlfbooaaDoorRPFence
import Derived.Test.YtamfbfajlfbooaaDoorRLookLaw
set_option linter.unusedVariables false
set_option linter.unusedSimpArgs false
set_option linter.unusedSectionVars false
namespace Go.Proofs.YtamfbfajlfbooaaDoor
open Go.RowKit Qs Qh
theorem notStr2 (kind : ByteArray) (l : List UInt8) (h : ¬ kind = ⟨l.toArray⟩) : (kind.toList == l) = false := by
  rw [Lib.toList_data, beq_eq_false_iff_ne]
  intro e
  apply h
  cases kind
  rw [← e]
structure AloneSt (l : List Cell) (q : List Wt) (now : List Int) : Prop where
  len : l.length = 2
  cell : ∀ (i : Nat) c, l[i]? = some c → c.here = true ∧ c.times = 1 ∧ c.words.length = 4
  q8 : q.length ≤ 8
  okq : ∀ x ∈ q, isWord x.v = true ∧ (x.c = 0 ∨ x.c = 1) ∧ x.g = 0 ∧ 0 ≤ x.w ∧ x.w < 4
  nlen : now.length = 8
  val : ∀ k j : Nat, k < 2 → j < 4 → now[4 * k + j]? = some (Qs.look q k 0 j (getWord l k j))
variable {l : List Cell} {q : List Wt} {now : List Int}
theorem AloneSt.ok (h : AloneSt l q now) : CellsOk l :=
  ⟨by rw [h.len]; decide, fun i c hc => by have := (h.cell i c hc).2.1; omega, fun i c hc => (h.cell i c hc).2.2⟩
theorem AloneSt.okW (h : AloneSt l q now) : okW q := fun x hx => ⟨(h.okq x hx).1, (h.okq x hx).2.2.2.1, (h.okq x hx).2.2.2.2⟩
theorem AloneSt.here (h : AloneSt l q now) {k : Nat} (hk : k < 2) : hereIn l (k : Int) 0 = true := by
  have hk2 : k < l.length := by rw [h.len]; exact hk
  obtain ⟨h1, h2, _⟩ := h.cell k _ (List.getElem?_eq_getElem hk2)
  simp only [hereIn, cellAt, show ¬ ((k : Int) < 0) by omega, if_false, Int.toNat_natCast, List.getElem?_eq_getElem hk2, h1, h2]
  rfl
theorem AloneSt.load (h : AloneSt l q now) {k j : Nat} (hk : k < 2) (hj : j < 4) : loadE l (k : Int) 0 (j : Int) = (getWord l k j, 0) := by
  unfold loadE
  rw [h.here hk, if_pos rfl, if_pos (by omega)]; rfl
theorem look_snoc (q : List Wt) (x : Wt) (c g w v : Int) : Qs.look (q ++ [x]) c g w v = if x.c = c ∧ x.g = g ∧ x.w = w then x.v else Qs.look q c g w v := by
  unfold Qs.look
  rw [List.foldl_append]; rfl
theorem look_cons (q : List Wt) (x : Wt) (c g w v : Int) : Qs.look (x :: q) c g w v = Qs.look q c g w (if x.c = c ∧ x.g = g ∧ x.w = w then x.v else v) := rfl
theorem getWord_setWord {l : List Cell} {c j : Nat} {v : Int} {y : Cell} (hy : l[c]? = some y) (hj : j < y.words.length) (k i : Nat) : getWord (setWord l c j v) k i = if c = k ∧ j = i then v else getWord l k i := by
  rw [setWord_at hy]
  unfold getWord
  rw [List.getElem?_set]
  have hcl := (List.getElem?_eq_some_iff.1 hy).1
  by_cases e : c = k
  · subst e
    rw [if_pos rfl, if_pos hcl, hy]
    simp only [Option.map_some, Option.getD_some, List.getD_eq_getElem?_getD, List.getElem?_set]
    by_cases e2 : j = i
    · subst e2; simp [hj]
    · simp [e2]
  · rw [if_neg e, if_neg (fun h => e h.1)]
theorem AloneSt.store (h : AloneSt l q now) {k j : Nat} (hk : k < 2) (hj : j < 4) {V : Int} (hv : isWord V = true) (h8 : q.length < 8) : AloneSt l (q ++ [⟨(k : Int), 0, (j : Int), V⟩]) (now.set (4 * k + j) V) := by
  refine ⟨h.len, h.cell, by simp; omega, fun x hx => ?_, by rw [List.length_set]; exact h.nlen, fun k' j' hk' hj' => ?_⟩
  · rcases List.mem_append.1 hx with h1 | h1
    · exact h.okq x h1
    · simp at h1; subst h1; exact ⟨hv, by simp only; omega, rfl, by simp only; omega, by simp only; omega⟩
  · rw [look_snoc, List.getElem?_set]
    by_cases e : 4 * k + j = 4 * k' + j'
    · have e1 : k = k' := by omega
      have e2 : j = j' := by omega
      subst e1 e2
      rw [if_pos rfl, if_pos (by rw [h.nlen]; omega), if_pos ⟨rfl, rfl, rfl⟩]
    · rw [if_neg e, h.val k' j' hk' hj', if_neg]
      rintro ⟨e1, _, e2⟩
      simp only at e1 e2
      omega
theorem AloneSt.first {x : Wt} {r : List Wt} (h : AloneSt l (x :: r) now) : hereIn l x.c x.g = true ∧ AloneSt (setWord l x.c.toNat x.w.toNat x.v) r now := by
  obtain ⟨h1, h2, h3, h4, h5⟩ := h.okq x (by simp)
  obtain ⟨k, hk⟩ := Int.eq_ofNat_of_zero_le (show 0 ≤ x.c by omega)
  obtain ⟨j, hj⟩ := Int.eq_ofNat_of_zero_le h4
  have hk2 : k < 2 := by omega
  have hj4 : j < 4 := by omega
  have hkl : k < l.length := by rw [h.len]; exact hk2
  have hy := List.getElem?_eq_getElem hkl
  obtain ⟨g1, g2, g3⟩ := h.cell k _ hy
  refine ⟨by rw [hk, h3]; exact h.here hk2, ⟨?_, fun i c hc => ?_, by have := h.q8; simp at this; omega, fun y hy => h.okq y (by simp [hy]), h.nlen, fun k' j' hk' hj' => ?_⟩⟩
  · unfold setWord; rw [List.length_modify]; exact h.len
  · obtain ⟨y0, h0, e1, e2, e3⟩ := setWord_keep hc
    rw [e1, e2, e3]; exact h.cell i y0 h0
  · rw [h.val k' j' hk' hj', look_cons, hk, hj, Int.toNat_natCast, Int.toNat_natCast, getWord_setWord hy (by omega)]
    congr 2
    by_cases e : k = k' ∧ j = j'
    · obtain ⟨rfl, rfl⟩ := e
      rw [if_pos ⟨rfl, h3, rfl⟩, if_pos ⟨rfl, rfl⟩]
    · rw [if_neg e, if_neg]
      rintro ⟨e1, _, e2⟩
      exact e ⟨by omega, by omega⟩
theorem AloneSt.fenced : ∀ (q : List Wt) {l : List Cell}, AloneSt l q now → badN l q = 0 ∧ AloneSt (drainAll l q).1 [] now
  | [], l, h => ⟨rfl, h⟩
  | x :: q, l, h => by
    obtain ⟨h1, h2⟩ := h.first
    obtain ⟨i1, i2⟩ := AloneSt.fenced q h2
    have e : drain1 l x = (setWord l x.c.toNat x.w.toNat x.v, false) := by unfold drain1; rw [if_pos h1]
    refine ⟨?_, ?_⟩
    · unfold badN at i1 ⊢
      simp only [drainAll, e]
      simpa using i1
    · simp only [drainAll, e]
      exact i2
theorem aloneStart : AloneSt [givenCell freshCell, givenCell freshCell] [] (List.replicate 8 0) := by
  refine ⟨rfl, fun i c hc => ?_, by decide, fun x hx => by simp at hx, by decide, fun k j hk hj => ?_⟩
  · have hi := (List.getElem?_eq_some_iff.1 hc).1
    have : c = givenCell freshCell := by
      have := List.mem_of_getElem? hc
      simpa using this
    subst this
    exact ⟨rfl, rfl, rfl⟩
  · have hk' : k = 0 ∨ k = 1 := by omega
    have hj' : j = 0 ∨ j = 1 ∨ j = 2 ∨ j = 3 := by omega
    rcases hk' with rfl | rfl <;> rcases hj' with rfl | rfl | rfl | rfl <;> rfl
end Go.Proofs.YtamfbfajlfbooaaDoor
