/- Texts that belong together, joined. -/
import Derived.Test.YtppihkneeolomaaDoorQBm1
import Derived.Test.YtppihkneeolomaaDoorQBCodeFine
set_option linter.unusedVariables false
set_option linter.unusedSimpArgs false
set_option linter.unusedSectionVars false
/- The queue's codes are right. -/
section
namespace Qu
open Qs Qg Qh
variable {lab : Nat → List UInt8}
structure LineF (code : List Instr) (a i : Nat) (x : Instr) : Prop where
  fine : insFine x = true
  set : x.op = 17 → labelAt x.to code 0 = some (a + i)
  lab : x.to ≠ [] → (labelAt x.to code 0).isSome = true
/-- Names of labels up to a number. -/
def NameTo (lab : Nat → List UInt8) (K : Nat) : Prop := ∀ j, j ≤ K → nameB (lab j) = true ∧ ∀ c : UInt8, 97 ≤ c → c ≤ 102 → nameB (lab j ++ [46, c]) = true
theorem lineF (hl : Lab lab) {K : Nat} (hn : NameTo lab K) : ∀ (ops : List Op) (k : Nat) (A : List Instr), (∀ v, Op.put v ∈ ops → regB v 4294967296 = true) → k + 2 * ops.length ≤ K → Old lab k A → ∀ i x, (codeOf lab k ops)[i]? = some x → LineF (A ++ codeOf lab k ops) A.length i x
  | [], k, A, hv, hk, hA, i, x, hx => by
    match i, hx with
    | 0, hx =>
      cases hx
      exact ⟨rfl, fun h => by simp at h, fun h => absurd rfl h⟩
    | i + 1, hx => simp [codeOf] at hx
  | .put v :: l, k, A, hv, hk, hA, i, x, hx => by
    rw [List.length_cons] at hk
    have ih := lineF hl hn l (k + 2) (A ++ putBlk (lab (k + 1)) v) (fun v hm => hv v (List.mem_cons_of_mem _ hm)) (by omega) (old_put hl hA v)
    have hc : A ++ codeOf lab k (.put v :: l) = A ++ (putBlk (lab (k + 1)) v ++ codeOf lab (k + 2) l) := rfl
    have hv0 := hv v (by simp)
    have hn1 := (hn (k + 1) (by omega)).1
    by_cases h8 : i < 8
    · have hb : (putBlk (lab (k + 1)) v)[i]? = some x := by
        have : (putBlk (lab (k + 1)) v ++ codeOf lab (k + 2) l)[i]? = some x := hx
        rw [List.getElem?_append_left (by exact h8)] at this
        exact this
      have hlab : labelAt (lab (k + 1)) (A ++ codeOf lab k (.put v :: l)) 0 = some (A.length + 7) := row_label (fun x hx h17 => (hA x hx h17 (k + 1) (by omega)).1) (put_label _ v)
      have hlab2 : (labelAt (lab (k + 1)) (A ++ codeOf lab k (.put v :: l)) 0).isSome = true := by rw [hlab]; rfl
      match i, hb, h8 with
      | 0, hb, _ => cases hb; exact ⟨rfl, fun h => by simp at h, fun h => absurd rfl h⟩
      | 1, hb, _ => cases hb; exact ⟨hn1, fun h => by simp at h, fun h => hlab2⟩
      | 2, hb, _ => cases hb; exact ⟨by show (regB 0 8 && regB v 4294967296 && z0 0 && true) = true; rw [hv0]; rfl, fun h => by simp at h, fun h => absurd rfl h⟩
      | 3, hb, _ => cases hb; exact ⟨rfl, fun h => by simp at h, fun h => absurd rfl h⟩
      | 4, hb, _ => cases hb; exact ⟨rfl, fun h => by simp at h, fun h => absurd rfl h⟩
      | 5, hb, _ => cases hb; exact ⟨rfl, fun h => by simp at h, fun h => absurd rfl h⟩
      | 6, hb, _ => cases hb; exact ⟨rfl, fun h => by simp at h, fun h => absurd rfl h⟩
      | 7, hb, _ => cases hb; exact ⟨hn1, fun h => hlab, fun h => hlab2⟩
      | _ + 8, hb, h => omega
    · have hx' : (codeOf lab (k + 2) l)[i - 8]? = some x := by
        have : (putBlk (lab (k + 1)) v ++ codeOf lab (k + 2) l)[i]? = some x := hx
        rw [List.getElem?_append_right (by exact Nat.le_of_not_lt h8)] at this
        exact this
      obtain ⟨i1, i2, i3⟩ := ih (i - 8) x hx'
      refine ⟨i1, fun h => ?_, fun h => ?_⟩
      · rw [hc, ← List.append_assoc, i2 h, List.length_append]
        show some (A.length + 8 + (i - 8)) = _
        congr 1; omega
      · rw [hc, ← List.append_assoc]; exact i3 h
  | .take :: l, k, A, hv, hk, hA, i, x, hx => by
    rw [List.length_cons] at hk
    have ih := lineF hl hn l (k + 2) (A ++ takeBlk (lab (k + 1)) (lab (k + 2))) (fun v hm => hv v (List.mem_cons_of_mem _ hm)) (by omega) (old_take hl hA)
    have hc : A ++ codeOf lab k (.take :: l) = A ++ (takeBlk (lab (k + 1)) (lab (k + 2)) ++ codeOf lab (k + 2) l) := rfl
    have hn1 := (hn (k + 1) (by omega)).1
    have hn2 := (hn (k + 2) (by omega)).2
    by_cases h8 : i < 30
    · have hb : (takeBlk (lab (k + 1)) (lab (k + 2)))[i]? = some x := by
        have : (takeBlk (lab (k + 1)) (lab (k + 2)) ++ codeOf lab (k + 2) l)[i]? = some x := hx
        rw [List.getElem?_append_left (by exact h8)] at this
        exact this
      have hlab : ∀ c j, labelAt (lab (k + 2) ++ [46, c]) (takeBlk (lab (k + 1)) (lab (k + 2))) 0 = some j → labelAt (lab (k + 2) ++ [46, c]) (A ++ codeOf lab k (.take :: l)) 0 = some (A.length + j) := fun c j h => row_label (fun x hx h17 => (hA x hx h17 (k + 2) (by omega)).2 c) h
      have hend : labelAt (lab (k + 1)) (A ++ codeOf lab k (.take :: l)) 0 = some (A.length + 29) := row_label (fun x hx h17 => (hA x hx h17 (k + 1) (by omega)).1) (take_end _ _ fun c => hl.ne _ _ c)
      have la := hlab 97 _ (take_a _ _)
      have lb := hlab 98 _ (take_b _ _)
      have lc := hlab 99 _ (take_c _ _)
      have ld := hlab 100 _ (take_d _ _)
      have le := hlab 101 _ (take_e _ _)
      have lf := hlab 102 _ (take_f _ _)
      have na := hn2 97 (by decide) (by decide)
      have nb := hn2 98 (by decide) (by decide)
      have nc := hn2 99 (by decide) (by decide)
      have nd := hn2 100 (by decide) (by decide)
      have ne := hn2 101 (by decide) (by decide)
      have nf := hn2 102 (by decide) (by decide)
      have so : ∀ {o : Option Nat} {j}, o = some j → o.isSome = true := fun h => by rw [h]; rfl
      match i, hb, h8 with
      | 0, hb, _ => cases hb; exact ⟨na, fun h => la, fun _ => so la⟩
      | 1, hb, _ => cases hb; exact ⟨rfl, fun h => by simp at h, fun h => absurd rfl h⟩
      | 2, hb, _ => cases hb; exact ⟨rfl, fun h => by simp at h, fun h => absurd rfl h⟩
      | 3, hb, _ => cases hb; exact ⟨rfl, fun h => by simp at h, fun h => absurd rfl h⟩
      | 4, hb, _ => cases hb; exact ⟨nb, fun h => by simp at h, fun _ => so lb⟩
      | 5, hb, _ => cases hb; exact ⟨na, fun h => by simp at h, fun _ => so la⟩
      | 6, hb, _ => cases hb; exact ⟨nb, fun h => lb, fun _ => so lb⟩
      | 7, hb, _ => cases hb; exact ⟨nc, fun h => lc, fun _ => so lc⟩
      | 8, hb, _ => cases hb; exact ⟨rfl, fun h => by simp at h, fun h => absurd rfl h⟩
      | 9, hb, _ => cases hb; exact ⟨rfl, fun h => by simp at h, fun h => absurd rfl h⟩
      | 10, hb, _ => cases hb; exact ⟨nd, fun h => by simp at h, fun _ => so ld⟩
      | 11, hb, _ => cases hb; exact ⟨rfl, fun h => by simp at h, fun h => absurd rfl h⟩
      | 12, hb, _ => cases hb; exact ⟨rfl, fun h => by simp at h, fun h => absurd rfl h⟩
      | 13, hb, _ => cases hb; exact ⟨rfl, fun h => by simp at h, fun h => absurd rfl h⟩
      | 14, hb, _ => cases hb; exact ⟨nf, fun h => by simp at h, fun _ => so lf⟩
      | 15, hb, _ => cases hb; exact ⟨nd, fun h => ld, fun _ => so ld⟩
      | 16, hb, _ => cases hb; exact ⟨rfl, fun h => by simp at h, fun h => absurd rfl h⟩
      | 17, hb, _ => cases hb; exact ⟨ne, fun h => by simp at h, fun _ => so le⟩
      | 18, hb, _ => cases hb; exact ⟨nc, fun h => by simp at h, fun _ => so lc⟩
      | 19, hb, _ => cases hb; exact ⟨ne, fun h => le, fun _ => so le⟩
      | 20, hb, _ => cases hb; exact ⟨rfl, fun h => by simp at h, fun h => absurd rfl h⟩
      | 21, hb, _ => cases hb; exact ⟨rfl, fun h => by simp at h, fun h => absurd rfl h⟩
      | 22, hb, _ => cases hb; exact ⟨nf, fun h => lf, fun _ => so lf⟩
      | 23, hb, _ => cases hb; exact ⟨rfl, fun h => by simp at h, fun h => absurd rfl h⟩
      | 24, hb, _ => cases hb; exact ⟨rfl, fun h => by simp at h, fun h => absurd rfl h⟩
      | 25, hb, _ => cases hb; exact ⟨rfl, fun h => by simp at h, fun h => absurd rfl h⟩
      | 26, hb, _ => cases hb; exact ⟨hn1, fun h => by simp at h, fun _ => so hend⟩
      | 27, hb, _ => cases hb; exact ⟨rfl, fun h => by simp at h, fun h => absurd rfl h⟩
      | 28, hb, _ => cases hb; exact ⟨rfl, fun h => by simp at h, fun h => absurd rfl h⟩
      | 29, hb, _ => cases hb; exact ⟨hn1, fun h => hend, fun _ => so hend⟩
      | _ + 30, hb, h => omega
    · have hx' : (codeOf lab (k + 2) l)[i - 30]? = some x := by
        have : (takeBlk (lab (k + 1)) (lab (k + 2)) ++ codeOf lab (k + 2) l)[i]? = some x := hx
        rw [List.getElem?_append_right (by exact Nat.le_of_not_lt h8)] at this
        exact this
      obtain ⟨i1, i2, i3⟩ := ih (i - 30) x hx'
      refine ⟨i1, fun h => ?_, fun h => ?_⟩
      · rw [hc, ← List.append_assoc, i2 h, List.length_append]
        show some (A.length + 30 + (i - 30)) = _
        congr 1; omega
      · rw [hc, ← List.append_assoc]; exact i3 h
theorem codeOf_len (lab : Nat → List UInt8) : ∀ (ops : List Op) (k : Nat), (codeOf lab k ops).length ≤ 30 * ops.length + 1
  | [], k => by simp [codeOf]
  | .put v :: l, k => by
    have := codeOf_len lab l (k + 2)
    simp only [codeOf, List.length_append, List.length_cons, putBlk, List.length_nil]
    omega
  | .take :: l, k => by
    have := codeOf_len lab l (k + 2)
    simp only [codeOf, List.length_append, List.length_cons, takeBlk, List.length_nil]
    omega
theorem code_fine (hl : Lab lab) (hn : NameTo lab 40) {ops : List Op} (hv : ∀ v, Op.put v ∈ ops → 0 ≤ v ∧ v < 4294967296) (h20 : ops.length ≤ 20) : CodeFine (codeOf lab 0 ops) := by
  have h := lineF hl hn ops 0 [] (fun v hm => by obtain ⟨h1, h2⟩ := hv v hm; unfold regB; simp [h1, h2]) (by omega) (fun x hx => by cases hx)
  refine ⟨by have := codeOf_len lab ops 0; omega, fun x hx => ?_, fun i x hi h17 => ?_, fun x hx hne => ?_⟩
  · obtain ⟨i, hi⟩ := List.getElem?_of_mem hx
    exact (h i x hi).fine
  · have := (h i x hi).set h17
    simpa using this
  · obtain ⟨i, hi⟩ := List.getElem?_of_mem hx
    exact (h i x hi).lab hne
end Qu
end
/- Labels by numbers: an 'o' and the number's digits. -/
section
namespace Qu
open Qs Qg Qh
def dig8 (n : Nat) : UInt8 := UInt8.ofNat (48 + n)
def labO (k : Nat) : List UInt8 := if k < 10 then [111, dig8 k] else if k < 100 then [111, dig8 (k / 10), dig8 (k % 10)] else 111 :: List.replicate k 97
theorem labO_len (k : Nat) : (k < 10 → (labO k).length = 2) ∧ (10 ≤ k → k < 100 → (labO k).length = 3) ∧ (100 ≤ k → (labO k).length = k + 1) := by
  unfold labO
  refine ⟨fun h => by rw [if_pos h]; rfl, fun h1 h2 => by rw [if_neg (by omega), if_pos h2]; rfl, fun h => by rw [if_neg (by omega), if_neg (by omega)]; simp⟩
theorem labO_small : ∀ i, i < 100 → ∀ j, j < 100 → labO i = labO j → i = j := by decide +kernel
theorem labO_dots : ∀ i, i < 100 → ¬ 46 ∈ labO i := by decide +kernel
theorem labO_lab : Lab labO := by
  refine ⟨fun i j h => ?_, fun j h => ?_⟩
  · by_cases hi : i < 100
    · by_cases hj : j < 100
      · exact labO_small i hi j hj h
      · have h1 := congrArg List.length h
        rw [(labO_len j).2.2 (by omega)] at h1
        by_cases hi2 : i < 10
        · rw [(labO_len i).1 hi2] at h1; omega
        · rw [(labO_len i).2.1 (by omega) hi] at h1; omega
    · have h1 := congrArg List.length h
      rw [(labO_len i).2.2 (by omega)] at h1
      by_cases hj : j < 100
      · by_cases hj2 : j < 10
        · rw [(labO_len j).1 hj2] at h1; omega
        · rw [(labO_len j).2.1 (by omega) hj] at h1; omega
      · rw [(labO_len j).2.2 (by omega)] at h1; omega
  · by_cases hj : j < 100
    · exact labO_dots j hj h
    · unfold labO at h
      rw [if_neg (by omega), if_neg (by omega)] at h
      rcases List.mem_cons.1 h with h | h
      · exact absurd h (by decide)
      · exact absurd (List.eq_of_mem_replicate h) (by decide)
theorem labO_names : ∀ j, j < 100 → nameB (labO j) = true ∧ ∀ c, c < 26 → nameB (labO j ++ [46, UInt8.ofNat (97 + c)]) = true := by decide +kernel
theorem labO_to : NameTo labO 40 := fun j hj => by
  obtain ⟨h1, h2⟩ := labO_names j (by omega)
  refine ⟨h1, fun c h3 h4 => ?_⟩
  have h5 : (97 : UInt8).toNat ≤ c.toNat := h3
  have h6 : c.toNat ≤ (102 : UInt8).toNat := h4
  have h7 : (97 : UInt8).toNat = 97 := rfl
  have h8 : (102 : UInt8).toNat = 102 := rfl
  have := h2 (c.toNat - 97) (by omega)
  rw [show 97 + (c.toNat - 97) = c.toNat by omega, UInt8.ofNat_toNat] at this
  exact this
end Qu
end
