/- spin.Prefix, spin.look, spin.Take, spin.Give, where all is right. -/
import Derived.Test.YtamfbfajlfbooaaDoorGChain
import Derived.Test.YtamfbfajlfbooaaDoorGName
import Derived.Outline
set_option linter.unusedVariables false
set_option linter.unusedSimpArgs false
set_option linter.unusedSectionVars false
namespace Go.Proofs.YtamfbfajlfbooaaDoor
open Go.RowKit Qs Qh
theorem prefix_ok (s : ByteArray) (most : Int) (w : World) (hs : s.size ≤ maxLen) (hn : nameB s.data.toList = true) (hm : (s.size : Int) ≤ most) :
    Calls Tryd.prog 101 #[.string s, .int .i64 most] w fun e w' => e = .returned .nilIface ∧ w = w' := by
  have Hn := Lib.hid hn
  clear hn
  have hd : decide (most < (s.size : Int)) = false := by simpa using hm
  go_enter Tryd.func101, Tryd.ntmps101
  go_wp2_with (go_at_call 109; refine (name_any s _ hs).mono ?_; rintro e w' ⟨rfl, rfl⟩; rw [Hn.out])
  go_ret
  exact ⟨rfl, rfl⟩
/-- What look lets by. -/
structure LookOk (s : ByteArray) (cell word tmp : Int) : Prop where
  name : nameB s.data.toList = true
  len : s.size ≤ 8
  c0 : 0 ≤ cell
  c1 : cell < 8
  w0 : 0 ≤ word
  w1 : word < 4
  t0 : 0 ≤ tmp
  t1 : tmp < 7
  ne0 : cell ≠ tmp
  ne1 : cell ≠ tmp + 1
theorem look_ok (s : ByteArray) (cell word tmp : Int) (w : World) (h : LookOk s cell word tmp) :
    Calls Tryd.prog 105 #[.string s, .int .i64 cell, .int .i64 word, .int .i64 tmp] w fun e w' => e = .returned .nilIface ∧ w = w' := by
  obtain ⟨hn, hl, c0, c1, w0, w1, t0, t1, n0, n1⟩ := h
  have hs : s.size ≤ maxLen := by unfold maxLen; omega
  have hm : (s.size : Int) ≤ 8 := by omega
  have d0 : (cell == tmp) = false := by simpa using n0
  have d1 : (cell == tmp + 1) = false := by simpa using n1
  have Hn := Lib.hid hn
  clear hn
  go_enter Tryd.func105, Tryd.ntmps105
  go_wp2_with (go_at_call 101; refine (prefix_ok s 8 _ hs Hn.out hm).mono ?_; rintro e w' ⟨rfl, rfl⟩)
  go_ret
  exact ⟨rfl, rfl⟩
def takeCode (p : List UInt8) (cell word tmp : Int) : List Instr :=
  [⟨17, 0, 0, 0, p ++ [46, 97]⟩, ⟨0, tmp, 0, 0, []⟩, ⟨0, tmp + 1, 1, 0, []⟩, ⟨9, cell, tmp, word, []⟩, ⟨14, tmp, 0, 0, p ++ [46, 98]⟩, ⟨16, 0, 0, 0, p ++ [46, 97]⟩, ⟨17, 0, 0, 0, p ++ [46, 98]⟩]
def giveCode (cell word tmp : Int) : List Instr := [⟨0, tmp, 0, 0, []⟩, ⟨7, cell, tmp, word, []⟩, ⟨12, 0, 0, 0, []⟩]
set_option maxHeartbeats 2000000 in
theorem take_ok (s : ByteArray) (cell word tmp : Int) (w : World) (h : LookOk s cell word tmp) :
    Calls Tryd.prog 57 #[.string s, .int .i64 cell, .int .i64 word, .int .i64 tmp] w fun e w' => ∃ v, e = .returned (.tuple #[v, .nilIface]) ∧ Made (takeCode s.data.toList cell word tmp) w v w' := by
  have H := Lib.hid h
  obtain ⟨hn, hl, c0, c1, w0, w1, t0, t1, n0, n1⟩ := h
  clear hn n0 n1
  go_enter Tryd.func57, Tryd.ntmps57
  go_wp2_with (go_at_call 105; refine (look_ok s cell word tmp _ H.out).mono ?_; rintro e w' ⟨rfl, rfl⟩)
  go_wp2_with fail
  refine (label_chain (Chain.start (b := w.heap.size) (o := 0) (v := .slice none 0 0) (l := []) ⟨by simp, by simp, InsRow.nil _ _, by simp [Value.ownBlock], by simp⟩) (by simp) (s.data.toList ++ [46, 97]) _ (bytes_cat s _)).mono ?_
  rintro e w1 ⟨rfl, C1⟩
  have HC1 := Lib.hid C1
  clear C1
  go_wp2_with fail
  refine (op2_chain (HC1.out.quiet ((Mod.refl _ _).alloc _)) (by simp) 0 _ rfl w1.heap.size tmp 0 2 (by simp) (by simp) (by simp)).mono ?_
  rintro e w2 ⟨rfl, C2⟩
  have HC2 := Lib.hid C2
  clear C2
  go_wp2_with fail
  refine (op2_chain (HC2.out.quiet ((Mod.refl _ _).alloc _)) (by simp) 0 _ rfl w2.heap.size (tmp + 1) 1 2 (by simp) (by simp) (by simp)).mono ?_
  rintro e w3 ⟨rfl, C3⟩
  have HC3 := Lib.hid C3
  clear C3
  go_wp2_with fail
  refine (op3_chain (HC3.out.quiet ((Mod.refl _ _).alloc _)) (by simp) 9 _ rfl w3.heap.size cell tmp word 3 (by simp) (by simp) (by simp) (by simp)).mono ?_
  rintro e w4 ⟨rfl, C4⟩
  have HC4 := Lib.hid C4
  clear C4
  go_wp2_with fail
  refine (to1_chain (HC4.out.quiet ((Mod.refl _ _).alloc _)) (by simp) 14 _ rfl (s.data.toList ++ [46, 98]) _ (bytes_cat s _) w4.heap.size tmp 1 (by simp) (by simp)).mono ?_
  rintro e w5 ⟨rfl, C5⟩
  have HC5 := Lib.hid C5
  clear C5
  go_wp2_with fail
  refine (to0_chain HC5.out (by simp) 16 _ rfl (s.data.toList ++ [46, 97]) _ (bytes_cat s _)).mono ?_
  rintro e w6 ⟨rfl, C6⟩
  have HC6 := Lib.hid C6
  clear C6
  go_wp2_with fail
  refine (label_chain HC6.out (by simp) (s.data.toList ++ [46, 98]) _ (bytes_cat s _)).mono ?_
  rintro e w7 ⟨rfl, C7⟩
  have HC7 := Lib.hid C7
  clear C7
  obtain ⟨v, ec, hv⟩ := HC7.out.made (w := w) (by simp [Value.ownBlock]) ((Mod.refl _ _).alloc _) (Nat.le_refl _)
  have Hv := Lib.hid hv
  clear hv
  go_wp2
  go_ret2
  exact ⟨v, rfl, Hv.out⟩
set_option maxHeartbeats 2000000 in
theorem give_ok (s : ByteArray) (cell word tmp : Int) (w : World) (h : LookOk s cell word tmp) :
    Calls Tryd.prog 58 #[.string s, .int .i64 cell, .int .i64 word, .int .i64 tmp] w fun e w' => ∃ v, e = .returned (.tuple #[v, .nilIface]) ∧ Made (giveCode cell word tmp) w v w' := by
  have H := Lib.hid h
  obtain ⟨hn, hl, c0, c1, w0, w1, t0, t1, n0, n1⟩ := h
  clear hn n0 n1
  go_enter Tryd.func58, Tryd.ntmps58
  go_wp2_with (go_at_call 105; refine (look_ok s cell word tmp _ H.out).mono ?_; rintro e w' ⟨rfl, rfl⟩)
  go_wp2_with fail
  refine (op2_chain (Chain.start (b := w.heap.size) (o := 0) (v := .slice none 0 0) (l := []) (w := (w.alloc (.cells #[.slice none 0 0] 163)).alloc (.cells #[.int .i64 tmp, .int .i64 0] 3)) ⟨by simp, by simp, InsRow.nil _ _, by simp [Value.ownBlock], by simp; omega⟩) (by simp) 0 _ rfl (w.heap.size + 1) tmp 0 2 (by simp) (by simp) (by simp)).mono ?_
  rintro e w1 ⟨rfl, C1⟩
  have HC1 := Lib.hid C1
  clear C1
  go_wp2_with fail
  refine (op3_chain (HC1.out.quiet ((Mod.refl _ _).alloc _)) (by simp) 7 _ rfl w1.heap.size cell tmp word 3 (by simp) (by simp) (by simp) (by simp)).mono ?_
  rintro e w2 ⟨rfl, C2⟩
  have HC2 := Lib.hid C2
  clear C2
  go_wp2_with fail
  refine (op0_chain HC2.out (by simp) 12 _ rfl).mono ?_
  rintro e w3 ⟨rfl, C3⟩
  have HC3 := Lib.hid C3
  clear C3
  obtain ⟨v, ec, hv⟩ := HC3.out.made (w := w) (by simp [Value.ownBlock]) (((Mod.refl _ _).alloc _).alloc _) (Nat.le_refl _)
  have Hv := Lib.hid hv
  clear hv
  go_wp2
  go_ret2
  exact ⟨v, rfl, Hv.out⟩
end Go.Proofs.YtamfbfajlfbooaaDoor
