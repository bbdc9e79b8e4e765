/- SpinCode: the plain law: a lock's code is right, whatever its numbers; what it writes. -/
import Derived.Test.YtamfbfajlfbooaaDoorGSpinBad
import Derived.Test.YtamfbfajlfbooaaDoorGWritten
import Derived.Test.YtamfbfajlfbooaaDoorGPlain
set_option linter.unusedVariables false
set_option linter.unusedSimpArgs false
set_option linter.unusedSectionVars false
namespace Go.Proofs.YtamfbfajlfbooaaDoor
open Go.RowKit Qs Qh
theorem nameB_more {p : List UInt8} {c : UInt8} (h : nameB p = true) (hl : p.length ≤ 8) (hc : lowB c = true) : nameB (p ++ [46, c]) = true := by
  match p, h with
  | d :: r, h =>
    simp only [nameB, Bool.and_eq_true, decide_eq_true_eq, List.all_cons] at h
    obtain ⟨⟨h1, h2⟩, h3, h4⟩ := h
    simp only [List.cons_append, nameB, Bool.and_eq_true, decide_eq_true_eq, List.all_cons, List.all_append, List.all_nil]
    refine ⟨⟨by simp at hl ⊢; omega, h2⟩, h3, h4, ?_⟩
    have : chB c = true := by unfold chB; rw [hc]; rfl
    have h46 : chB 46 = true := by decide
    simp [this, h46]
theorem lab_ne (p : List UInt8) : ¬ (p ++ [46, 97] = p ++ [46, 98]) := fun e => by
  have := List.append_cancel_left e
  revert this; decide
theorem takeCode_fine {s : ByteArray} {cell word tmp : Int} (h : LookOk s cell word tmp) : CodeFine (takeCode s.data.toList cell word tmp) := by
  obtain ⟨hn, hl, c0, c1, w0, w1, t0, t1, n0, n1⟩ := h
  have hl8 : s.data.toList.length ≤ 8 := by rw [bytes_len]; exact hl
  have na := nameB_more (c := 97) hn hl8 (by decide)
  have nb := nameB_more (c := 98) hn hl8 (by decide)
  generalize s.data.toList = p at *
  have hab := lab_ne p
  have hba : ¬ (p ++ [46, 98] = p ++ [46, 97]) := fun e => hab e.symm
  refine ⟨by simp [takeCode], fun x hx => ?_, fun i x hi h17 => ?_, fun x hx hne => ?_⟩
  · simp only [takeCode, List.mem_cons, List.not_mem_nil, or_false] at hx
    rcases hx with rfl | rfl | rfl | rfl | rfl | rfl | rfl <;> simp [insFine, regB, z0, na, nb] <;> omega
  · have hi7 : i < 7 := by have := (List.getElem?_eq_some_iff.1 hi).1; simpa [takeCode] using this
    rcases (by omega : i = 0 ∨ i = 1 ∨ i = 2 ∨ i = 3 ∨ i = 4 ∨ i = 5 ∨ i = 6) with rfl | rfl | rfl | rfl | rfl | rfl | rfl <;> simp [takeCode] at hi <;> subst hi <;> simp at h17 <;> simp [takeCode, labelAt]
  · simp only [takeCode, List.mem_cons, List.not_mem_nil, or_false] at hx
    rcases hx with rfl | rfl | rfl | rfl | rfl | rfl | rfl <;> simp at hne <;> simp [takeCode, labelAt]
theorem giveCode_fine {s : ByteArray} {cell word tmp : Int} (h : LookOk s cell word tmp) : CodeFine (giveCode cell word tmp) := by
  obtain ⟨hn, hl, c0, c1, w0, w1, t0, t1, n0, n1⟩ := h
  refine ⟨by simp [giveCode], fun x hx => ?_, fun i x hi h17 => ?_, fun x hx hne => ?_⟩
  · simp only [giveCode, List.mem_cons, List.not_mem_nil, or_false] at hx
    rcases hx with rfl | rfl | rfl <;> simp [insFine, regB, z0] <;> omega
  · have hi7 : i < 3 := by have := (List.getElem?_eq_some_iff.1 hi).1; simpa [giveCode] using this
    rcases (by omega : i = 0 ∨ i = 1 ∨ i = 2) with rfl | rfl | rfl <;> simp [giveCode] at hi <;> subst hi <;> simp at h17
  · simp only [giveCode, List.mem_cons, List.not_mem_nil, or_false] at hx
    rcases hx with rfl | rfl | rfl <;> simp at hne
/-- The ops that code may not bear. -/
def barsL : List ByteArray := [⟨#[97, 108, 108, 111, 99]⟩, ⟨#[102, 114, 101, 101]⟩, ⟨#[109, 97, 114, 107]⟩, ⟨#[110, 101, 101, 100]⟩, ⟨#[115, 116, 111, 112]⟩]
theorem wop_bars {n : Nat} (h : wop n = true) : ∀ b ∈ barsL, opStr n ≠ b := by
  have hn : n < 18 := by unfold wop at h; simp only [Bool.or_eq_true, Bool.and_eq_true, decide_eq_true_eq] at h; omega
  have hall : ((List.range 18).all fun n => !wop n || barsL.all fun b => decide (opStr n ≠ b)) = true := by decide +kernel
  have := List.all_eq_true.1 hall n (List.mem_range.2 hn)
  rw [h] at this
  intro b hb
  simpa using List.all_eq_true.1 (by simpa using this : (barsL.all fun b => decide (opStr n ≠ b)) = true) b hb
theorem takeCode_wop (p : List UInt8) (cell word tmp : Int) : ∀ x ∈ takeCode p cell word tmp, wop x.op = true := fun x hx => by
  simp only [takeCode, List.mem_cons, List.not_mem_nil, or_false] at hx
  rcases hx with rfl | rfl | rfl | rfl | rfl | rfl | rfl <;> rfl
theorem giveCode_wop (cell word tmp : Int) : ∀ x ∈ giveCode cell word tmp, wop x.op = true := fun x hx => by
  simp only [giveCode, List.mem_cons, List.not_mem_nil, or_false] at hx
  rcases hx with rfl | rfl | rfl <;> rfl
theorem takeCode_to (s : ByteArray) (cell word tmp : Int) : ∀ x ∈ takeCode s.data.toList cell word tmp, ToOk s x := fun x hx => by
  simp only [takeCode, List.mem_cons, List.not_mem_nil, or_false] at hx
  rcases hx with rfl | rfl | rfl | rfl | rfl | rfl | rfl <;> first | exact .inl rfl | exact .inr ⟨by have := bytes_len s; simp only [List.length_append]; omega, by rw [← bytes_len s]; exact List.take_left⟩
theorem giveCode_to (s : ByteArray) (cell word tmp : Int) : ∀ x ∈ giveCode cell word tmp, ToOk s x := fun x hx => by
  simp only [giveCode, List.mem_cons, List.not_mem_nil, or_false] at hx
  rcases hx with rfl | rfl | rfl <;> exact .inl rfl
theorem getD_set_ne (l : List Bool) (k i : Nat) (b : Bool) (h : ¬ i = k) : (l.set k b).getD i false = l.getD i false := by
  rw [List.getD_eq_getElem?_getD, List.getD_eq_getElem?_getD, List.getElem?_set_ne (Ne.symm h)]
theorem rep_getD (i : Nat) : (List.replicate 8 false).getD i false = false := by
  rw [List.getD_eq_getElem?_getD, List.getElem?_replicate]; split <;> rfl
/-- Only the two registers are written. -/
theorem takeCode_written (p : List UInt8) (cell word : Int) (t i : Nat) (h : ¬ i = t) (h2 : ¬ i = t + 1) : (writtenL (takeCode p cell word t)).getD i false = false := by
  have e : writtenL (takeCode p cell word t) = (((List.replicate 8 false).set t true).set (t + 1) true).set t true := rfl
  rw [e, getD_set_ne _ _ _ _ h, getD_set_ne _ _ _ _ h2, getD_set_ne _ _ _ _ h, rep_getD]
theorem giveCode_written (cell word : Int) (t i : Nat) (h : ¬ i = t) : (writtenL (giveCode cell word t)).getD i false = false := by
  have e : writtenL (giveCode cell word t) = (List.replicate 8 false).set t true := rfl
  rw [e, getD_set_ne _ _ _ _ h, rep_getD]
end Go.Proofs.YtamfbfajlfbooaaDoor
