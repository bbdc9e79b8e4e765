/- What a name is. -/
import Derived.Test.YtamfbfajlfbooaaDoorGm2
import Derived.Lib.Strings
set_option linter.unusedVariables false
set_option linter.unusedSimpArgs false
set_option linter.unusedSectionVars false
namespace Qh
open Go Go.RowKit Qs
def lowB (c : UInt8) : Bool := decide (97 ≤ c.toNat) && decide (c.toNat ≤ 122)
def chB (c : UInt8) : Bool := lowB c || (decide (48 ≤ c.toNat) && decide (c.toNat ≤ 57)) || decide (c.toNat = 46)
/-- A label's name. -/
def nameB : List UInt8 → Bool
  | [] => false
  | c :: l => decide (l.length < 12) && lowB c && (c :: l).all chB
theorem nameB_len {l : List UInt8} (h : 12 < l.length) : nameB l = false := by
  cases l with
  | nil => rfl
  | cons c l => simp only [nameB]; rw [decide_eq_false (by simp at h; omega)]; rfl
theorem nameB_first {l : List UInt8} {c : UInt8} (h0 : l[0]? = some c) (h : lowB c = false) : nameB l = false := by
  cases l with
  | nil => rfl
  | cons d l => simp at h0; subst h0; simp [nameB, h]
theorem nameB_ch {l : List UInt8} {c : UInt8} {i : Nat} (h0 : l[i]? = some c) (h : chB c = false) : nameB l = false := by
  cases l with
  | nil => rfl
  | cons d l =>
    have : (d :: l).all chB = false := List.all_eq_false.2 ⟨c, List.mem_of_getElem? h0, by rw [h]; decide⟩
    simp only [nameB, this, Bool.and_false]
theorem nameB_yes {l : List UInt8} {c : UInt8} (h0 : l[0]? = some c) (h : lowB c = true) (hl : l.length ≤ 12) (ha : ∀ (i : Nat) d, l[i]? = some d → chB d = true) : nameB l = true := by
  cases l with
  | nil => simp at h0
  | cons d l =>
    simp at h0; subst h0
    have : (d :: l).all chB = true := List.all_eq_true.2 fun x hx => by
      obtain ⟨i, hi⟩ := List.getElem?_of_mem hx
      exact ha i x hi
    simp only [nameB, this, h, Bool.and_true]
    simp at hl; exact decide_eq_true (by omega)
theorem bytes_get (s : ByteArray) (i : Nat) (h : i < s.size) : s.data.toList[i]? = some s[i] := by
  rw [List.getElem?_eq_getElem (by simpa using h)]; rfl
theorem bytes_len (s : ByteArray) : s.data.toList.length = s.size := by simp
theorem chB_true {c : UInt8} (h : (97 ≤ (c.toNat : Int) ∧ (c.toNat : Int) ≤ 122) ∨ (48 ≤ (c.toNat : Int) ∧ (c.toNat : Int) ≤ 57) ∨ (c.toNat : Int) = 46) : chB c = true := by
  unfold chB lowB
  simp only [Bool.or_eq_true, Bool.and_eq_true, decide_eq_true_eq]
  omega
theorem chB_false {c : UInt8} (h : ¬ ((97 ≤ (c.toNat : Int) ∧ (c.toNat : Int) ≤ 122) ∨ (48 ≤ (c.toNat : Int) ∧ (c.toNat : Int) ≤ 57) ∨ (c.toNat : Int) = 46)) : chB c = false := by
  rw [← Bool.not_eq_true]
  unfold chB lowB
  simp only [Bool.or_eq_true, Bool.and_eq_true, decide_eq_true_eq]
  omega
theorem ch_step {s : ByteArray} {k : Nat} (hlt : k < s.size) (Hall : ∀ (j : Nat) d, j < k → s.data.toList[j]? = some d → chB d = true) (h : chB s[k] = true) : ∀ (j : Nat) d, j < k + 1 → s.data.toList[j]? = some d → chB d = true := by
  intro j d hj hd
  by_cases e : j = k
  · subst e
    rw [bytes_get s j hlt] at hd
    cases hd
    exact h
  · exact Hall j d (by omega) hd
theorem bytes_cat (s : ByteArray) (l : List UInt8) : (⟨(s.data.toList ++ l).toArray⟩ : ByteArray) = s ++ ⟨l.toArray⟩ := ByteArray.ext (by simp)
/-- A byte of a number; a digit. -/
def byteB (k : Nat) : UInt8 := UInt8.ofNat k
def digB (k : Nat) : UInt8 := byteB (48 + k)
end Qh
