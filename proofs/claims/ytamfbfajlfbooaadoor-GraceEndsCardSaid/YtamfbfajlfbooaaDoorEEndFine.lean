/- Codes of small casts are right: by the kernel, in one walk, labels by a table. -/
import Derived.Test.YtamfbfajlfbooaaDoorEm7
set_option linter.unusedVariables false
set_option linter.unusedSimpArgs false
set_option linter.unusedSectionVars false
namespace Go.Proofs.YtamfbfajlfbooaaDoor
open Qs Qh
def labsOf : List Instr → List (List UInt8)
  | [] => []
  | x :: c => if x.op = 17 then x.to :: labsOf c else labsOf c
def uniqB : List (List UInt8) → Bool
  | [] => true
  | y :: r => (r.all fun z => !decide (z = y)) && uniqB r
def spine {α : Type} : List α → (List α → Bool) → Bool
  | [], k => k []
  | a :: r, k => spine r fun r' => k (a :: r')
theorem spine_eq {α : Type} : ∀ (l : List α) (k : List α → Bool), spine l k = k l
  | [], k => rfl
  | a :: r, k => by unfold spine; rw [spine_eq r]
def fineW (c : List Instr) : Bool :=
  spine c fun c => spine (labsOf c) fun T => decide (c.length ≤ 2000) && uniqB T && c.all fun x => insFine x && easyOp x.op && (x.to.isEmpty || T.any fun z => decide (z = x.to))
theorem labs_mem : ∀ {c : List Instr} (i : Nat) x, c[i]? = some x → x.op = 17 → x.to ∈ labsOf c
  | [], i, x, h, _ => by simp at h
  | y :: c, i, x, h, h17 => by
    unfold labsOf
    match i, h with
    | 0, h =>
      have : y = x := by simpa using h
      subst this
      rw [if_pos h17]; simp
    | i + 1, h =>
      have := labs_mem i x (by simpa using h) h17
      split
      · exact List.mem_cons_of_mem _ this
      · exact this
theorem uniq_at : ∀ {c : List Instr} (k : Nat), uniqB (labsOf c) = true → ∀ (i : Nat) x, c[i]? = some x → x.op = 17 → labelAt x.to c k = some (k + i)
  | [], k, _, i, x, h, _ => by simp at h
  | y :: c, k, hn, i, x, h, h17 => by
    unfold labsOf at hn
    unfold labelAt
    match i, h with
    | 0, h =>
      have : y = x := by simpa using h
      subst this
      rw [if_pos ⟨h17, rfl⟩]; rfl
    | i + 1, h =>
      have h' : c[i]? = some x := by simpa using h
      by_cases hy : y.op = 17
      · rw [if_pos hy] at hn
        unfold uniqB at hn
        simp only [Bool.and_eq_true, List.all_eq_true, Bool.not_eq_true', decide_eq_false_iff_not] at hn
        have hne := hn.1 _ (labs_mem i x h' h17)
        rw [if_neg (fun g => hne g.2.symm), uniq_at (k + 1) hn.2 i x h' h17]
        congr 1; omega
      · rw [if_neg hy] at hn
        rw [if_neg (fun g => hy g.1), uniq_at (k + 1) hn i x h' h17]
        congr 1; omega
theorem lab_some {to : List UInt8} : ∀ {c : List Instr} (k : Nat), to ∈ labsOf c → (labelAt to c k).isSome = true
  | [], k, h => by simp [labsOf] at h
  | y :: c, k, h => by
    unfold labsOf at h
    unfold labelAt
    by_cases hy : y.op = 17
    · rw [if_pos hy] at h
      by_cases e : y.to = to
      · rw [if_pos ⟨hy, e⟩]; rfl
      · rw [if_neg (fun g => e g.2)]
        exact lab_some (k + 1) ((List.mem_cons.1 h).resolve_left fun g => e g.symm)
    · rw [if_neg hy] at h
      rw [if_neg (fun g => hy g.1)]
      exact lab_some (k + 1) h
theorem fineW_ok {c : List Instr} (h : fineW c = true) : CodeFine c ∧ ∀ y ∈ c, easyOp y.op = true := by
  unfold fineW at h
  simp only [spine_eq, Bool.and_eq_true, decide_eq_true_eq, List.all_eq_true, Bool.or_eq_true, List.isEmpty_iff, List.any_eq_true] at h
  obtain ⟨⟨h1, h2⟩, h3⟩ := h
  refine ⟨⟨h1, fun x hx => (h3 x hx).1.1, fun i x hi h17 => ?_, fun x hx hne => ?_⟩, fun y hy => (h3 y hy).1.2⟩
  · have := uniq_at 0 h2 i x hi h17
    rw [Nat.zero_add] at this
    exact this
  · obtain ⟨z, hz, e⟩ := (h3 x hx).2.resolve_left hne
    rw [e] at hz
    exact lab_some 0 hz
/-- The codes there are of small casts, once each. -/
def c15 : List Cst := [⟨true, 1, 0, false⟩, ⟨true, 2, 0, false⟩, ⟨false, 0, 0, false⟩, ⟨false, 1, 0, false⟩, ⟨false, 1, 1, false⟩, ⟨false, 1, 2, false⟩, ⟨false, 1, 0, true⟩, ⟨false, 1, 1, true⟩, ⟨false, 1, 2, true⟩, ⟨false, 2, 0, false⟩, ⟨false, 2, 1, false⟩, ⟨false, 2, 2, false⟩, ⟨false, 2, 0, true⟩, ⟨false, 2, 1, true⟩, ⟨false, 2, 2, true⟩]
theorem code_in {f : Nat} {x : Cst} (ht : x.t ≤ 2) (hr : x.r ≤ 2) : ∃ y ∈ c15, castCode f true x = castCode f true y := by
  obtain ⟨wr, t, r, ne⟩ := x
  simp only at ht hr
  cases wr with
  | true =>
    match t, ht with
    | 0, _ => exact ⟨⟨false, 0, 0, false⟩, by simp [c15], by show wrCode f true 0 = rdCode f _ 0 0; simp [wrCode, wrSecs, rdCode, rdSecs, rdAt]⟩
    | 1, _ => exact ⟨⟨true, 1, 0, false⟩, by simp [c15], rfl⟩
    | 2, _ => exact ⟨⟨true, 2, 0, false⟩, by simp [c15], rfl⟩
  | false =>
    match t, ht with
    | 0, _ =>
      refine ⟨⟨false, 0, 0, false⟩, by simp [c15], ?_⟩
      show rdCode f _ r 0 = rdCode f _ 0 0
      simp [rdCode, rdSecs, rdAt]
    | 1, _ => exact ⟨⟨false, 1, r, ne⟩, by match r, hr with | 0, _ => cases ne <;> simp [c15] | 1, _ => cases ne <;> simp [c15] | 2, _ => cases ne <;> simp [c15], rfl⟩
    | 2, _ => exact ⟨⟨false, 2, r, ne⟩, by match r, hr with | 0, _ => cases ne <;> simp [c15] | 1, _ => cases ne <;> simp [c15] | 2, _ => cases ne <;> simp [c15], rfl⟩
theorem fine15 : ((List.range 4).all fun f => c15.all fun x => fineW (castCode (f + 1) true x)) = true := by decide +kernel
theorem small_fine {f : Nat} (h1 : 1 ≤ f) (h4 : f ≤ 4) {x : Cst} (ht : x.t ≤ 2) (hr : x.r ≤ 2) : CodeFine (castCode f true x) ∧ ∀ y ∈ castCode f true x, easyOp y.op = true := by
  obtain ⟨y, hy, e⟩ := code_in (f := f) ht hr
  rw [e]
  have h := List.all_eq_true.1 fine15 (f - 1) (List.mem_range.2 (by omega))
  rw [show f - 1 + 1 = f from by omega] at h
  exact fineW_ok (List.all_eq_true.1 h y hy)
end Go.Proofs.YtamfbfajlfbooaaDoor
