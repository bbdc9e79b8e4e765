/- Code whose labels begin with a prefix: right for every prefix, if it is for one. -/
import Derived.Test.YtamfbfajlfbooaaDoorGSpinCodeLaw
set_option linter.unusedVariables false
set_option linter.unusedSimpArgs false
set_option linter.unusedSectionVars false
namespace Go.Proofs.YtamfbfajlfbooaaDoor
open Go.RowKit Qs Qh
def preI (p : List UInt8) (x : Instr) : Instr := ⟨x.op, x.A, x.B, x.C, if x.to.isEmpty then [] else p ++ x.to⟩
def preC (p : List UInt8) (l : List Instr) : List Instr := l.map (preI p)
abbrev pre4 : List UInt8 := [97, 97, 97, 97]
theorem preI_empty {p q : List UInt8} (hp : p ≠ []) (hq : q ≠ []) (x : Instr) : (preI p x).to.isEmpty = (preI q x).to.isEmpty := by
  unfold preI
  cases x.to with
  | nil => rfl
  | cons c l =>
    obtain ⟨a, p, rfl⟩ := List.exists_cons_of_ne_nil hp
    obtain ⟨b, q, rfl⟩ := List.exists_cons_of_ne_nil hq
    rfl
theorem nameB_ne {p : List UInt8} (h : nameB p = true) : p ≠ [] := fun e => by subst e; cases h
theorem nameB_pre {p t : List UInt8} (hn : nameB p = true) (hl : p.length ≤ 4) (h : nameB (pre4 ++ t) = true) : nameB (p ++ t) = true := by
  match p, hn with
  | d :: r, hn =>
    simp only [nameB, Bool.and_eq_true, decide_eq_true_eq, List.all_cons] at hn
    obtain ⟨⟨h1, h2⟩, h3, h4⟩ := hn
    simp only [List.cons_append, List.nil_append, nameB, Bool.and_eq_true, decide_eq_true_eq, List.all_cons, List.all_append] at h ⊢
    obtain ⟨⟨g1, g2⟩, g3, g4, g5, g6, g7⟩ := h
    refine ⟨⟨?_, h2⟩, h3, h4, g7⟩
    simp at hl g1 ⊢; omega
theorem preI_name {p : List UInt8} (hn : nameB p = true) (hl : p.length ≤ 4) (x : Instr) (h : nameB (preI pre4 x).to = true) : nameB (preI p x).to = true := by
  unfold preI at h ⊢
  simp only at h ⊢
  split at h
  · cases h
  · rename_i hne
    rw [if_neg hne]
    exact nameB_pre hn hl h
theorem insFine_pre {p : List UInt8} (hn : nameB p = true) (hl : p.length ≤ 4) (x : Instr) (h : insFine (preI pre4 x) = true) : insFine (preI p x) = true := by
  have h1 := preI_empty (nameB_ne hn) (q := pre4) (by simp) x
  have h2 := preI_name hn hl x
  unfold insFine at h ⊢
  generalize (preI p x).to = tp at *
  generalize (preI pre4 x).to = tq at *
  simp only [preI] at h ⊢
  split at h <;> simp_all
theorem labelAt_pre (p t : List UInt8) (ht : t ≠ []) : ∀ (l : List Instr) (i : Nat), labelAt (p ++ t) (preC p l) i = labelAt t l i
  | [], _ => rfl
  | x :: l, i => by
    show labelAt _ (preI p x :: preC p l) i = _
    unfold labelAt
    rw [labelAt_pre p t ht l (i + 1)]
    have e : ((preI p x).op = 17 ∧ (preI p x).to = p ++ t) ↔ (x.op = 17 ∧ x.to = t) := by
      unfold preI
      simp only
      refine and_congr_right fun _ => ?_
      cases h : x.to with
      | nil =>
        simp only [List.isEmpty_nil, if_true]
        constructor
        · intro e
          have := congrArg List.length e
          simp only [List.length_nil, List.length_append] at this
          exact absurd (List.length_eq_zero_iff.1 (show t.length = 0 by omega)) ht
        · intro e; exact absurd e.symm ht
      | cons c r =>
        simp only [List.isEmpty_cons, Bool.false_eq_true, if_false]
        exact ⟨fun e => List.append_cancel_left e, fun e => by rw [e]⟩
    simp only [e]
def preOk (l : List Instr) : Bool := codeFineB (preC pre4 l) && l.all (fun x => !decide (x.op = 17) || !x.to.isEmpty) && l.all (fun x => wop x.op)
theorem preC_fine {p : List UInt8} (hn : nameB p = true) (hl : p.length ≤ 4) {l : List Instr} (h : preOk l = true) : CodeFine (preC p l) := by
  unfold preOk at h
  simp only [Bool.and_eq_true, List.all_eq_true] at h
  obtain ⟨⟨h1, h2⟩, h3⟩ := h
  have F := codeFine_of h1
  refine ⟨?_, fun y hy => ?_, fun i y hy h17 => ?_, fun y hy hne => ?_⟩
  · have := F.len; simpa [preC] using this
  · obtain ⟨x, hx, rfl⟩ := List.mem_map.1 hy
    exact insFine_pre hn hl x (F.ins _ (List.mem_map_of_mem hx))
  · unfold preC at hy
    rw [List.getElem?_map] at hy
    obtain ⟨x, hx, rfl⟩ := Option.map_eq_some_iff.1 hy
    have h17' : x.op = 17 := h17
    have hto := h2 x (List.mem_of_getElem? hx)
    rw [h17'] at hto
    have hne : x.to ≠ [] := by intro e; rw [e] at hto; simp at hto
    have e1 : ∀ q : List UInt8, (preI q x).to = q ++ x.to := fun q => by unfold preI; simp only; rw [if_neg (by simpa using hne)]
    rw [e1, labelAt_pre p _ hne, ← labelAt_pre pre4 _ hne, ← e1]
    exact F.set i _ (by unfold preC; rw [List.getElem?_map, hx]; rfl) h17'
  · obtain ⟨x, hx, rfl⟩ := List.mem_map.1 hy
    have hne' : x.to ≠ [] := by intro e; apply hne; unfold preI; rw [e]; rfl
    have e1 : ∀ q : List UInt8, (preI q x).to = q ++ x.to := fun q => by unfold preI; simp only; rw [if_neg (by simpa using hne')]
    rw [e1, labelAt_pre p _ hne', ← labelAt_pre pre4 _ hne', ← e1]
    exact F.lab _ (List.mem_map_of_mem hx) (by rw [e1]; simp)
theorem preC_wop {p : List UInt8} {l : List Instr} (h : preOk l = true) : ∀ x ∈ preC p l, wop x.op = true := fun y hy => by
  unfold preOk at h
  simp only [Bool.and_eq_true, List.all_eq_true] at h
  obtain ⟨x, hx, rfl⟩ := List.mem_map.1 hy
  exact h.2 x hx
theorem preC_to (s : ByteArray) (l : List Instr) : ∀ x ∈ preC s.data.toList l, ToOk s x := fun y hy => by
  obtain ⟨x, hx, rfl⟩ := List.mem_map.1 hy
  unfold preI ToOk
  simp only
  split
  · exact .inl rfl
  · exact .inr ⟨by have := bytes_len s; simp only [List.length_append]; omega, by rw [← bytes_len s]; exact List.take_left⟩
theorem preC_written (p : List UInt8) (l : List Instr) : writtenL (preC p l) = writtenL l := by
  unfold writtenL preC
  generalize List.replicate 8 false = o
  induction l generalizing o with
  | nil => rfl
  | cons x l ih => exact ih _
theorem preC_len (p : List UInt8) (l : List Instr) : (preC p l).length = l.length := by simp [preC]
end Go.Proofs.YtamfbfajlfbooaaDoor
