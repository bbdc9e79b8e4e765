/- QueueCode: the plain law; quiescentlaw3's lined. -/
import Derived.Test.YtamfbfajlfbooaaDoorRStackLaw
import Derived.Test.YtamfbfajlfbooaaDoorRQueue
set_option linter.unusedVariables false
set_option linter.unusedSimpArgs false
set_option linter.unusedSectionVars false
namespace Go.Proofs.YtamfbfajlfbooaaDoor
open Go.RowKit Go.Extern.Stop Go.Stop Go.Extern Qs Qh
theorem qputCode_fine {s : ByteArray} (hn : nameB s.data.toList = true) (hl : s.size ≤ 8) : CodeFine (qputCode s.data.toList) := by
  have hl8 : s.data.toList.length ≤ 8 := by rw [bytes_len]; exact hl
  generalize s.data.toList = p at *
  refine ⟨by simp [qputCode], fun x hx => ?_, fun i x hi h17 => ?_, fun x hx hne => ?_⟩
  · simp only [qputCode, List.mem_cons, List.not_mem_nil, or_false] at hx
    rcases hx with rfl | rfl | rfl <;> simp [insFine, regB, z0]
  · have hi7 : i < 3 := by have := (List.getElem?_eq_some_iff.1 hi).1; simpa [qputCode] using this
    rcases (by omega : i = 0 ∨ i = 1 ∨ i = 2) with rfl | rfl | rfl <;> simp [qputCode] at hi <;> subst hi <;> simp at h17 <;> simp [qputCode, labelAt]
  · simp only [qputCode, List.mem_cons, List.not_mem_nil, or_false] at hx
    rcases hx with rfl | rfl | rfl <;> simp at hne <;> simp [qputCode, labelAt]
theorem qputCode_wop (p : List UInt8) : ∀ x ∈ qputCode p, wop x.op = true := fun x hx => by
  simp only [qputCode, List.mem_cons, List.not_mem_nil, or_false] at hx
  rcases hx with rfl | rfl | rfl <;> rfl
theorem qputCode_to (s : ByteArray) : ∀ x ∈ qputCode s.data.toList, ToOk s x := fun x hx => by
  simp only [qputCode, List.mem_cons, List.not_mem_nil, or_false] at hx
  rcases hx with rfl | rfl | rfl <;> first | exact .inl rfl | exact .inr ⟨by have := bytes_len s; simp only [List.length_append]; omega, by rw [← bytes_len s]; exact List.take_left⟩
theorem qtakeCode_fine {s : ByteArray} (hn : nameB s.data.toList = true) (hl : s.size ≤ 8) : CodeFine (qtakeCode s.data.toList) := by
  have hl8 : s.data.toList.length ≤ 8 := by rw [bytes_len]; exact hl
  have n97 := nameB_more (c := 97) hn hl8 (by decide)
  have n98 := nameB_more (c := 98) hn hl8 (by decide)
  have n99 := nameB_more (c := 99) hn hl8 (by decide)
  have n100 := nameB_more (c := 100) hn hl8 (by decide)
  have n101 := nameB_more (c := 101) hn hl8 (by decide)
  have n102 := nameB_more (c := 102) hn hl8 (by decide)
  generalize s.data.toList = p at *
  have h97x98 : ¬ (p ++ [46, 97] = p ++ [46, 98]) := by simp
  have h97x99 : ¬ (p ++ [46, 97] = p ++ [46, 99]) := by simp
  have h97x100 : ¬ (p ++ [46, 97] = p ++ [46, 100]) := by simp
  have h97x101 : ¬ (p ++ [46, 97] = p ++ [46, 101]) := by simp
  have h97x102 : ¬ (p ++ [46, 97] = p ++ [46, 102]) := by simp
  have h98x97 : ¬ (p ++ [46, 98] = p ++ [46, 97]) := by simp
  have h98x99 : ¬ (p ++ [46, 98] = p ++ [46, 99]) := by simp
  have h98x100 : ¬ (p ++ [46, 98] = p ++ [46, 100]) := by simp
  have h98x101 : ¬ (p ++ [46, 98] = p ++ [46, 101]) := by simp
  have h98x102 : ¬ (p ++ [46, 98] = p ++ [46, 102]) := by simp
  have h99x97 : ¬ (p ++ [46, 99] = p ++ [46, 97]) := by simp
  have h99x98 : ¬ (p ++ [46, 99] = p ++ [46, 98]) := by simp
  have h99x100 : ¬ (p ++ [46, 99] = p ++ [46, 100]) := by simp
  have h99x101 : ¬ (p ++ [46, 99] = p ++ [46, 101]) := by simp
  have h99x102 : ¬ (p ++ [46, 99] = p ++ [46, 102]) := by simp
  have h100x97 : ¬ (p ++ [46, 100] = p ++ [46, 97]) := by simp
  have h100x98 : ¬ (p ++ [46, 100] = p ++ [46, 98]) := by simp
  have h100x99 : ¬ (p ++ [46, 100] = p ++ [46, 99]) := by simp
  have h100x101 : ¬ (p ++ [46, 100] = p ++ [46, 101]) := by simp
  have h100x102 : ¬ (p ++ [46, 100] = p ++ [46, 102]) := by simp
  have h101x97 : ¬ (p ++ [46, 101] = p ++ [46, 97]) := by simp
  have h101x98 : ¬ (p ++ [46, 101] = p ++ [46, 98]) := by simp
  have h101x99 : ¬ (p ++ [46, 101] = p ++ [46, 99]) := by simp
  have h101x100 : ¬ (p ++ [46, 101] = p ++ [46, 100]) := by simp
  have h101x102 : ¬ (p ++ [46, 101] = p ++ [46, 102]) := by simp
  have h102x97 : ¬ (p ++ [46, 102] = p ++ [46, 97]) := by simp
  have h102x98 : ¬ (p ++ [46, 102] = p ++ [46, 98]) := by simp
  have h102x99 : ¬ (p ++ [46, 102] = p ++ [46, 99]) := by simp
  have h102x100 : ¬ (p ++ [46, 102] = p ++ [46, 100]) := by simp
  have h102x101 : ¬ (p ++ [46, 102] = p ++ [46, 101]) := by simp
  refine ⟨by simp [qtakeCode], fun x hx => ?_, fun i x hi h17 => ?_, fun x hx hne => ?_⟩
  · simp only [qtakeCode, List.mem_cons, List.not_mem_nil, or_false] at hx
    rcases hx with rfl | rfl | rfl | rfl | rfl | rfl | rfl | rfl | rfl | rfl | rfl | rfl | rfl | rfl | rfl | rfl | rfl | rfl | rfl | rfl | rfl | rfl | rfl | rfl | rfl | rfl <;> simp [insFine, regB, z0, n97, n98, n99, n100, n101, n102]
  · have hi7 : i < 26 := by have := (List.getElem?_eq_some_iff.1 hi).1; simpa [qtakeCode] using this
    rcases (by omega : i = 0 ∨ i = 1 ∨ i = 2 ∨ i = 3 ∨ i = 4 ∨ i = 5 ∨ i = 6 ∨ i = 7 ∨ i = 8 ∨ i = 9 ∨ i = 10 ∨ i = 11 ∨ i = 12 ∨ i = 13 ∨ i = 14 ∨ i = 15 ∨ i = 16 ∨ i = 17 ∨ i = 18 ∨ i = 19 ∨ i = 20 ∨ i = 21 ∨ i = 22 ∨ i = 23 ∨ i = 24 ∨ i = 25) with rfl | rfl | rfl | rfl | rfl | rfl | rfl | rfl | rfl | rfl | rfl | rfl | rfl | rfl | rfl | rfl | rfl | rfl | rfl | rfl | rfl | rfl | rfl | rfl | rfl | rfl <;> simp [qtakeCode] at hi <;> subst hi <;> simp at h17 <;> simp [qtakeCode, labelAt]
  · simp only [qtakeCode, List.mem_cons, List.not_mem_nil, or_false] at hx
    rcases hx with rfl | rfl | rfl | rfl | rfl | rfl | rfl | rfl | rfl | rfl | rfl | rfl | rfl | rfl | rfl | rfl | rfl | rfl | rfl | rfl | rfl | rfl | rfl | rfl | rfl | rfl <;> simp at hne <;> simp [qtakeCode, labelAt]
theorem qtakeCode_wop (p : List UInt8) : ∀ x ∈ qtakeCode p, wop x.op = true := fun x hx => by
  simp only [qtakeCode, List.mem_cons, List.not_mem_nil, or_false] at hx
  rcases hx with rfl | rfl | rfl | rfl | rfl | rfl | rfl | rfl | rfl | rfl | rfl | rfl | rfl | rfl | rfl | rfl | rfl | rfl | rfl | rfl | rfl | rfl | rfl | rfl | rfl | rfl <;> rfl
theorem qtakeCode_to (s : ByteArray) : ∀ x ∈ qtakeCode s.data.toList, ToOk s x := fun x hx => by
  simp only [qtakeCode, List.mem_cons, List.not_mem_nil, or_false] at hx
  rcases hx with rfl | rfl | rfl | rfl | rfl | rfl | rfl | rfl | rfl | rfl | rfl | rfl | rfl | rfl | rfl | rfl | rfl | rfl | rfl | rfl | rfl | rfl | rfl | rfl | rfl | rfl <;> first | exact .inl rfl | exact .inr ⟨by have := bytes_len s; simp only [List.length_append]; omega, by rw [← bytes_len s]; exact List.take_left⟩
theorem qput_written (p : List UInt8) : writtenL (qputCode p) = [true, false, false, false, false, false, false, false] := rfl
theorem qtake_written (p : List UInt8) : writtenL (qtakeCode p) = [true, true, true, true, true, false, false, false] := rfl
theorem lined_any (w : World) : Calls Tryd.prog 75 #[] w fun e w' => e = .returned (.bool true) ∧ Mod noF w w' := by
  go_enter Tryd.func75, Tryd.ntmps75
  go_wp2_with fail
  refine (qput_ok ⟨#[97]⟩ w (by decide) (by decide)).mono ?_
  rintro e w1 ⟨va, rfl, hma⟩
  obtain ⟨ga, ca, rfl, _⟩ := InsRow.src hma.1 (by simp [qputCode])
  have H1 := Lib.hid (Mod.below hma.2.1)
  clear hma
  go_wp2_with fail
  refine (qtake_ok ⟨#[98]⟩ w1 (by decide) (by decide)).mono ?_
  rintro e w2 ⟨vb, rfl, hmb⟩
  obtain ⟨gb, cb, rfl, _⟩ := InsRow.src hmb.1 (by simp [qtakeCode])
  have H2 := Lib.hid (Mod.below hmb.2.1)
  clear hmb
  go_wp2
  go_ret
  exact ⟨rfl, H1.out.trans0 H2.out⟩
end Go.Proofs.YtamfbfajlfbooaaDoor
