/- stack.Push, stack.Pop: their code. -/
import Derived.Test.YtamfbfajlfbooaaDoorGSpinBad
set_option linter.unusedVariables false
set_option linter.unusedSimpArgs false
set_option linter.unusedSectionVars false
namespace Go.Proofs.YtamfbfajlfbooaaDoor
open Go.RowKit Qs Qh
def pushCode (p : List UInt8) : List Instr :=
  [⟨17, 0, 0, 0, p ++ [46, 97]⟩, ⟨6, 0, 5, 0, []⟩, ⟨7, 3, 0, 1, []⟩, ⟨1, 1, 0, 0, []⟩, ⟨1, 2, 3, 0, []⟩, ⟨9, 5, 1, 0, []⟩, ⟨15, 0, 1, 0, p ++ [46, 98]⟩, ⟨16, 0, 0, 0, p ++ [46, 97]⟩, ⟨17, 0, 0, 0, p ++ [46, 98]⟩]
set_option maxHeartbeats 4000000 in
theorem push_ok (s : ByteArray) (w : World) (hn : nameB s.data.toList = true) (hm : (s.size : Int) ≤ 8) :
    Calls Tryd.prog 50 #[.string s] w fun e w' => ∃ v, e = .returned (.tuple #[v, .nilIface]) ∧ Made (pushCode s.data.toList) w v w' := by
  have hs : s.size ≤ maxLen := by unfold maxLen; omega
  have Hn := Lib.hid hn
  clear hn
  go_enter Tryd.func50, Tryd.ntmps50
  go_wp2_with (go_at_call 101; refine (prefix_ok s 8 _ hs Hn.out hm).mono ?_; rintro e w' ⟨rfl, rfl⟩)
  go_wp2_with fail
  refine (label_chain (Chain.start (b := w.heap.size) (o := 0) (v := .slice none 0 0) (l := []) ⟨by simp, by simp, InsRow.nil _ _, by simp [Value.ownBlock], by simp⟩) (by simp) (s.data.toList ++ [46, 97]) _ (bytes_cat s _)).mono ?_
  rintro e w1 ⟨rfl, C1⟩
  have HC1 := Lib.hid C1
  clear C1
  go_wp2_with fail
  refine (op3_chain (HC1.out.quiet ((Mod.refl _ _).alloc _)) (by simp) 6 _ rfl w1.heap.size 0 5 0 3 (by simp) (by simp) (by simp) (by simp)).mono ?_
  rintro e w2 ⟨rfl, C2⟩
  have HC2 := Lib.hid C2
  clear C2
  go_wp2_with fail
  refine (op3_chain (HC2.out.quiet ((Mod.refl _ _).alloc _)) (by simp) 7 _ rfl w2.heap.size 3 0 1 3 (by simp) (by simp) (by simp) (by simp)).mono ?_
  rintro e w3 ⟨rfl, C3⟩
  have HC3 := Lib.hid C3
  clear C3
  go_wp2_with fail
  refine (op2_chain (HC3.out.quiet ((Mod.refl _ _).alloc _)) (by simp) 1 _ rfl w3.heap.size 1 0 2 (by simp) (by simp) (by simp)).mono ?_
  rintro e w4 ⟨rfl, C4⟩
  have HC4 := Lib.hid C4
  clear C4
  go_wp2_with fail
  refine (op2_chain (HC4.out.quiet ((Mod.refl _ _).alloc _)) (by simp) 1 _ rfl w4.heap.size 2 3 2 (by simp) (by simp) (by simp)).mono ?_
  rintro e w5 ⟨rfl, C5⟩
  have HC5 := Lib.hid C5
  clear C5
  go_wp2_with fail
  refine (op3_chain (HC5.out.quiet ((Mod.refl _ _).alloc _)) (by simp) 9 _ rfl w5.heap.size 5 1 0 3 (by simp) (by simp) (by simp) (by simp)).mono ?_
  rintro e w6 ⟨rfl, C6⟩
  have HC6 := Lib.hid C6
  clear C6
  go_wp2_with fail
  refine (to2_chain (HC6.out.quiet ((Mod.refl _ _).alloc _)) (by simp) 15 _ rfl (s.data.toList ++ [46, 98]) _ (bytes_cat s _) w6.heap.size 0 1 2 (by simp) (by simp) (by simp)).mono ?_
  rintro e w7 ⟨rfl, C7⟩
  have HC7 := Lib.hid C7
  clear C7
  go_wp2_with fail
  refine (to0_chain HC7.out (by simp) 16 _ rfl (s.data.toList ++ [46, 97]) _ (bytes_cat s _)).mono ?_
  rintro e w8 ⟨rfl, C8⟩
  have HC8 := Lib.hid C8
  clear C8
  go_wp2_with fail
  refine (label_chain HC8.out (by simp) (s.data.toList ++ [46, 98]) _ (bytes_cat s _)).mono ?_
  rintro e w9 ⟨rfl, C9⟩
  have HC9 := Lib.hid C9
  clear C9
  obtain ⟨v, ec, hv⟩ := HC9.out.made (w := w) (by simp [Value.ownBlock]) ((Mod.refl _ _).alloc _) (Nat.le_refl _)
  have Hv := Lib.hid hv
  clear hv
  go_wp2
  go_ret2
  exact ⟨v, rfl, Hv.out⟩
theorem push_bad (s : ByteArray) (w : World) (a : Nat → Addr) (E : ErrsAt w a) (hs : s.size ≤ maxLen) (h : nameB s.data.toList = false ∨ (8 : Int) < (s.size : Int)) :
    Calls Tryd.prog 50 #[.string s] w fun e w' => e = .returned (.tuple #[.slice none 0 0, errV a 3]) ∧ w = w' := by
  have h := prefix_bad s 8 w a E hs h
  unfold errV at h
  have H := Lib.hid h
  clear h E
  go_enter Tryd.func50, Tryd.ntmps50
  go_wp2_with (go_at_call 101; refine H.out.mono ?_; rintro e w' ⟨rfl, rfl⟩)
  go_ret2
  exact ⟨rfl, rfl⟩
def popCode (p : List UInt8) : List Instr :=
  [⟨17, 0, 0, 0, p ++ [46, 97]⟩, ⟨6, 0, 5, 0, []⟩, ⟨14, 0, 0, 0, p ++ [46, 98]⟩, ⟨6, 2, 0, 1, []⟩, ⟨1, 1, 0, 0, []⟩, ⟨9, 5, 1, 0, []⟩, ⟨15, 0, 1, 0, p ++ [46, 98]⟩, ⟨16, 0, 0, 0, p ++ [46, 97]⟩, ⟨17, 0, 0, 0, p ++ [46, 98]⟩, ⟨1, 3, 0, 0, []⟩]
set_option maxHeartbeats 4000000 in
theorem pop_ok (s : ByteArray) (w : World) (hn : nameB s.data.toList = true) (hm : (s.size : Int) ≤ 8) :
    Calls Tryd.prog 51 #[.string s] w fun e w' => ∃ v, e = .returned (.tuple #[v, .nilIface]) ∧ Made (popCode s.data.toList) w v w' := by
  have hs : s.size ≤ maxLen := by unfold maxLen; omega
  have Hn := Lib.hid hn
  clear hn
  go_enter Tryd.func51, Tryd.ntmps51
  go_wp2_with (go_at_call 101; refine (prefix_ok s 8 _ hs Hn.out hm).mono ?_; rintro e w' ⟨rfl, rfl⟩)
  go_wp2_with fail
  refine (label_chain (Chain.start (b := w.heap.size) (o := 0) (v := .slice none 0 0) (l := []) ⟨by simp, by simp, InsRow.nil _ _, by simp [Value.ownBlock], by simp⟩) (by simp) (s.data.toList ++ [46, 97]) _ (bytes_cat s _)).mono ?_
  rintro e w1 ⟨rfl, C1⟩
  have HC1 := Lib.hid C1
  clear C1
  go_wp2_with fail
  refine (op3_chain (HC1.out.quiet ((Mod.refl _ _).alloc _)) (by simp) 6 _ rfl w1.heap.size 0 5 0 3 (by simp) (by simp) (by simp) (by simp)).mono ?_
  rintro e w2 ⟨rfl, C2⟩
  have HC2 := Lib.hid C2
  clear C2
  go_wp2_with fail
  refine (to1_chain (HC2.out.quiet ((Mod.refl _ _).alloc _)) (by simp) 14 _ rfl (s.data.toList ++ [46, 98]) _ (bytes_cat s _) w2.heap.size 0 1 (by simp) (by simp)).mono ?_
  rintro e w3 ⟨rfl, C3⟩
  have HC3 := Lib.hid C3
  clear C3
  go_wp2_with fail
  refine (op3_chain (HC3.out.quiet ((Mod.refl _ _).alloc _)) (by simp) 6 _ rfl w3.heap.size 2 0 1 3 (by simp) (by simp) (by simp) (by simp)).mono ?_
  rintro e w4 ⟨rfl, C4⟩
  have HC4 := Lib.hid C4
  clear C4
  go_wp2_with fail
  refine (op2_chain (HC4.out.quiet ((Mod.refl _ _).alloc _)) (by simp) 1 _ rfl w4.heap.size 1 0 2 (by simp) (by simp) (by simp)).mono ?_
  rintro e w5 ⟨rfl, C5⟩
  have HC5 := Lib.hid C5
  clear C5
  go_wp2_with fail
  refine (op3_chain (HC5.out.quiet ((Mod.refl _ _).alloc _)) (by simp) 9 _ rfl w5.heap.size 5 1 0 3 (by simp) (by simp) (by simp) (by simp)).mono ?_
  rintro e w6 ⟨rfl, C6⟩
  have HC6 := Lib.hid C6
  clear C6
  go_wp2_with fail
  refine (to2_chain (HC6.out.quiet ((Mod.refl _ _).alloc _)) (by simp) 15 _ rfl (s.data.toList ++ [46, 98]) _ (bytes_cat s _) w6.heap.size 0 1 2 (by simp) (by simp) (by simp)).mono ?_
  rintro e w7 ⟨rfl, C7⟩
  have HC7 := Lib.hid C7
  clear C7
  go_wp2_with fail
  refine (to0_chain HC7.out (by simp) 16 _ rfl (s.data.toList ++ [46, 97]) _ (bytes_cat s _)).mono ?_
  rintro e w8 ⟨rfl, C8⟩
  have HC8 := Lib.hid C8
  clear C8
  go_wp2_with fail
  refine (label_chain HC8.out (by simp) (s.data.toList ++ [46, 98]) _ (bytes_cat s _)).mono ?_
  rintro e w9 ⟨rfl, C9⟩
  have HC9 := Lib.hid C9
  clear C9
  go_wp2_with fail
  refine (op2_chain (HC9.out.quiet ((Mod.refl _ _).alloc _)) (by simp) 1 _ rfl w9.heap.size 3 0 2 (by simp) (by simp) (by simp)).mono ?_
  rintro e w10 ⟨rfl, C10⟩
  have HC10 := Lib.hid C10
  clear C10
  obtain ⟨v, ec, hv⟩ := HC10.out.made (w := w) (by simp [Value.ownBlock]) ((Mod.refl _ _).alloc _) (Nat.le_refl _)
  have Hv := Lib.hid hv
  clear hv
  go_wp2
  go_ret2
  exact ⟨v, rfl, Hv.out⟩
theorem pop_bad (s : ByteArray) (w : World) (a : Nat → Addr) (E : ErrsAt w a) (hs : s.size ≤ maxLen) (h : nameB s.data.toList = false ∨ (8 : Int) < (s.size : Int)) :
    Calls Tryd.prog 51 #[.string s] w fun e w' => e = .returned (.tuple #[.slice none 0 0, errV a 3]) ∧ w = w' := by
  have h := prefix_bad s 8 w a E hs h
  unfold errV at h
  have H := Lib.hid h
  clear h E
  go_enter Tryd.func51, Tryd.ntmps51
  go_wp2_with (go_at_call 101; refine H.out.mono ?_; rintro e w' ⟨rfl, rfl⟩)
  go_ret2
  exact ⟨rfl, rfl⟩
end Go.Proofs.YtamfbfajlfbooaaDoor
