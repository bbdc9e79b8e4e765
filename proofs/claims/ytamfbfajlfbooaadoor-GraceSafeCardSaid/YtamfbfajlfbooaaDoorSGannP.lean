/- The places of readers' and writers' codes are right, by the kernel. -/
import Derived.Test.YtamfbfajlfbooaaDoorSm8
set_option linter.unusedVariables false
set_option linter.unusedSimpArgs false
set_option linter.unusedSectionVars false
namespace Go.Proofs.YtamfbfajlfbooaaDoor
open Qs Qh Qg
theorem ann_1t : (rdCasts true).all (castChk2 1) = true := by decide +kernel
theorem ann_2t : (rdCasts true).all (castChk2 2) = true := by decide +kernel
theorem ann_3t : (rdCasts true).all (castChk2 3) = true := by decide +kernel
theorem ann_4t : (rdCasts true).all (castChk2 4) = true := by decide +kernel
theorem ann_1f : (rdCasts false).all (castChk2 1) = true := by decide +kernel
theorem ann_2f : (rdCasts false).all (castChk2 2) = true := by decide +kernel
theorem ann_3f : (rdCasts false).all (castChk2 3) = true := by decide +kernel
theorem ann_4f : (rdCasts false).all (castChk2 4) = true := by decide +kernel
theorem ann_w : ((List.range 4).all fun f => wrCasts.all (castChk2 (f + 1))) = true := by decide +kernel
theorem cast_chk {f : Nat} (h1 : 1 ≤ f) (h4 : f ≤ 4) {x : Cst} (ht : x.t ≤ 3) (hr : x.r ≤ 5) : castChk2 f x = true := by
  obtain ⟨wr, t, r, ne⟩ := x
  simp only at ht hr
  cases wr with
  | true =>
    show castChk2 f ⟨true, t, 0, false⟩ = true
    have h := List.all_eq_true.1 ann_w (f - 1) (List.mem_range.2 (by omega))
    rw [show f - 1 + 1 = f from by omega] at h
    exact List.all_eq_true.1 h _ (List.mem_map.2 ⟨t, List.mem_range.2 (by omega), rfl⟩)
  | false =>
    have hm : (⟨false, t, r, ne⟩ : Cst) ∈ rdCasts ne := List.mem_flatMap.2 ⟨t, List.mem_range.2 (by omega), List.mem_map.2 ⟨r, List.mem_range.2 (by omega), rfl⟩⟩
    rcases (by omega : f = 1 ∨ f = 2 ∨ f = 3 ∨ f = 4) with rfl | rfl | rfl | rfl <;> cases ne
    · exact List.all_eq_true.1 ann_1f _ hm
    · exact List.all_eq_true.1 ann_1t _ hm
    · exact List.all_eq_true.1 ann_2f _ hm
    · exact List.all_eq_true.1 ann_2t _ hm
    · exact List.all_eq_true.1 ann_3f _ hm
    · exact List.all_eq_true.1 ann_3t _ hm
    · exact List.all_eq_true.1 ann_4f _ hm
    · exact List.all_eq_true.1 ann_4t _ hm
structure CastOk (f : Nat) (x : Cst) : Prop where
  ann : annB f (castCode f true x) (annOf f x) = true
  start : startB f (annOf f x) = true
  fine : CodeFine (castCode f true x)
  easy : ∀ y ∈ castCode f true x, easyOp y.op = true
theorem cast_ok {f : Nat} (h1 : 1 ≤ f) (h4 : f ≤ 4) {x : Cst} (ht : x.t ≤ 3) (hr : x.r ≤ 5) : CastOk f x := by
  have h := cast_chk h1 h4 ht hr
  unfold castChk2 at h
  simp only [Bool.and_eq_true] at h
  obtain ⟨g1, g2, g3⟩ := castW_ok h.1
  exact ⟨g1, h.2, g2, g3⟩
end Go.Proofs.YtamfbfajlfbooaaDoor
