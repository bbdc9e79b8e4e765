/- A new machine's memory, cell by cell: the law. -/
import Derived.Test.YtamfbfajlfbooaaDoorRPutLaw
set_option linter.unusedVariables false
set_option linter.unusedSimpArgs false
set_option linter.unusedSectionVars false
namespace Qh
open Go Go.RowKit Qs
variable {τ : Ty} {K : Nat → Bool} {w w' : World} {L L' : Lay} {m m' : M}
theorem words_foot {i b k : Nat} {t : Int} (ol : OkL L m) (h : Foot τ K (L.words i b) { m with cells := m.cells.set i (zeroCell t) } k) : Foot τ K L m k ∨ k = b := by
  obtain ⟨a, j, hK, hs, rfl⟩ := h
  by_cases h6 : a = 6 ∧ j = i
  · right; obtain ⟨rfl, rfl⟩ := h6; simp [Lay.words]
  · left
    rw [words_blk L i b a j h6]
    by_cases h2 : a = 2 ∧ j = 0
    · obtain ⟨rfl, rfl⟩ := h2
      exact ⟨2, 0, hK, by rw [obj2 τ m ol.n2]; rfl, rfl⟩
    · rw [words_obj τ L m i b t a j h6 h2] at hs
      exact ⟨a, j, hK, hs, rfl⟩
theorem words_ok {i b : Nat} {t : Int} (ol : OkL L m) : OkL (L.words i b) { m with cells := m.cells.set i (zeroCell t) } := by
  refine ⟨?_, ?_, ?_, ?_, ?_, ?_, ?_, ?_⟩
  · rw [words_nil L i b 2 0 (by omega)]; exact ol.n2
  · rw [words_nil L i b 3 0 (by omega)]; exact ol.n3
  · intro j hj
    by_cases e : j = i
    · subst e; simp [Lay.words]
    · rw [words_nil L i b 6 j (by omega)]; exact ol.n6 j (by simpa using hj)
  · intro u l hl h
    rw [words_nil L i b 7 u (by omega)] at h
    exact ol.n7 u l hl h
  · have : (L.words i b).sp 2 0 = L.sp 2 0 := by simp [Lay.words]
    rw [this]; simpa using ol.sp2
  · have : (L.words i b).sp 3 0 = L.sp 3 0 := by simp [Lay.words]
    rw [this]; exact ol.sp3
  · intro u l hl h
    rw [words_nil L i b 7 u (by omega)] at h
    have : (L.words i b).sp 7 u = L.sp 7 u := by simp [Lay.words]
    rw [this]; exact ol.sp7 u l hl h
  · intro u
    have h1 : (L.words i b).sp 7 u = L.sp 7 u := by simp [Lay.words]
    have h2 := words_junk L i b 7 u (by omega)
    rw [h1, h2]; exact ol.j7 u
/-- The model while its cells are given. -/
def preC (init : List (List Int)) (i j : Nat) : Cell := if j < i then ⟨pad 4 (init.getD j []), 1, true⟩ else ⟨[0, 0, 0, 0], 0, false⟩
def preM (n t : Nat) (init : List (List Int)) (i : Nat) : M := ⟨(List.range n).map (preC init i), List.replicate t [], [], [], 0⟩
theorem preM_zero (n t : Nat) (init : List (List Int)) : preM n t init 0 = newM n t := by
  unfold preM newM
  congr 1
  apply List.ext_getElem?
  intro j
  by_cases h : j < n
  · simp [h, preC]
  · rw [List.getElem?_eq_none (by simpa using h), List.getElem?_eq_none (by simpa using h)]
theorem preM_get {n t i j : Nat} {init : List (List Int)} (h : j < n) : (preM n t init i).cells[j]? = some (preC init i j) := by simp [preM, h]
theorem preM_len (n t i : Nat) (init : List (List Int)) : (preM n t init i).cells.length = n := by simp [preM]
theorem preM_succ {n t i : Nat} {init : List (List Int)} (h : i < n) {l : List Int} (hl : init[i]? = some l) :
    { (preM n t init i) with cells := ((preM n t init i).cells.set i (zeroCell 1)).set i ⟨pad 4 l, 1, true⟩ } = preM n t init (i + 1) := by
  show M.mk ((((List.range n).map (preC init i)).set i (zeroCell 1)).set i ⟨pad 4 l, 1, true⟩) _ _ _ _ = M.mk ((List.range n).map (preC init (i + 1))) _ _ _ _
  congr 1
  apply List.ext_getElem?
  intro j
  simp only [List.set_set]
  rw [List.getElem?_set]
  by_cases hj : j < n
  · by_cases e : i = j
    · subst e
      simp [h, preC, List.getD, hl]
    · rw [if_neg e]
      simp only [List.getElem?_map, List.getElem?_range hj, Option.map_some]
      congr 1
      unfold preC
      by_cases h1 : j < i
      · rw [if_pos h1, if_pos (by omega)]
      · rw [if_neg h1, if_neg (by omega)]
  · have : ¬ i = j := by omega
    rw [if_neg this, List.getElem?_eq_none (by simpa using hj), List.getElem?_eq_none (by simpa using hj)]
theorem preM_alloc {n t i : Nat} {init : List (List Int)} (h : i < n) : allocAt (preM n t init i).cells 0 = some (i, 0) := by
  have := allocAt_found (preM n t init i).cells 0 i ⟨[0, 0, 0, 0], 0, false⟩ (by rw [preM_get h]; simp [preC]) rfl (fun j x hj hx => by
    rw [preM_get (by omega)] at hx
    cases hx
    simp [preC, hj])
  simpa using this
theorem pad_word {k : Nat} {l : List Int} (h : ∀ v ∈ l, isWord v = true) : ∀ v ∈ pad k l, isWord v = true := by
  intro v hv
  unfold pad at hv
  rcases List.mem_append.1 hv with h1 | h1
  · exact h v h1
  · rw [List.eq_of_mem_replicate h1]; rfl
def RowsFine (k : Nat) (ll : List (List Int)) : Prop := ∀ l ∈ ll, l.length ≤ k ∧ ∀ v ∈ l, isWord v = true
theorem RowsFine.getD {k : Nat} {ll : List (List Int)} (h : RowsFine k ll) (j : Nat) : (ll.getD j []).length ≤ k ∧ ∀ v ∈ ll.getD j [], isWord v = true := by
  unfold List.getD
  rcases e : ll[j]? with _ | l
  · simp
  · exact h l (List.mem_of_getElem? e)
theorem preM_ok {n t i : Nat} {init : List (List Int)} (h1 : 1 ≤ n) (hn : n ≤ 64) (ht : t ≤ 6) (hi : RowsFine 4 init) : OkM 1 (preM n t init i) := by
  refine ⟨by rw [preM_len]; exact h1, by rw [preM_len]; exact hn, ?_, ?_, by simpa [preM] using ht, ?_, ?_, by omega⟩
  · intro j c hc
    have hj : j < n := by have := (List.getElem?_eq_some_iff.1 hc).1; rwa [preM_len] at this
    rw [preM_get hj] at hc
    cases hc
    unfold preC
    split
    · exact ⟨pad_len (hi.getD j).1, pad_word (hi.getD j).2⟩
    · exact ⟨rfl, fun v hv => by simp at hv; subst hv; rfl⟩
  · intro j c hc
    have hj : j < n := by have := (List.getElem?_eq_some_iff.1 hc).1; rwa [preM_len] at this
    rw [preM_get hj] at hc
    cases hc
    unfold preC
    split <;> simp
  · intro u l hl
    have : l = [] := List.eq_of_mem_replicate (List.mem_of_getElem? hl)
    subst this; simp
  · intro u l hl
    have : l = [] := List.eq_of_mem_replicate (List.mem_of_getElem? hl)
    subst this; simp
end Qh
