/- queue.Put, queue.Take: their code. -/
import Derived.Test.YtppihkneeolomaaDoorQBm6
import Derived.Outline
set_option linter.unusedVariables false
set_option linter.unusedSimpArgs false
set_option linter.unusedSectionVars false
namespace Go.Proofs.YtppihkneeolomaaDoor
open Go.RowKit Qs Qh
variable {w0 w w1 : World} {b o : Nat} {v0 : Value} {l : List Instr}
def qputCode (p : List UInt8) : List Instr :=
  [⟨1, 0, 3, 0, []⟩, ⟨8, 0, 5, 1, []⟩, ⟨7, 0, 3, 1, []⟩]
set_option maxHeartbeats 4000000 in
theorem qput_ok (s : ByteArray) (w : World) (hn : nameB s.data.toList = true) (hm : (s.size : Int) ≤ 8) :
    Calls Tryd.prog 31 #[.string s] w fun e w' => ∃ v, e = .returned (.tuple #[v, .nilIface]) ∧ Made (qputCode s.data.toList) w v w' := by
  have hs : s.size ≤ maxLen := by unfold maxLen; omega
  have Hn := Lib.hid hn
  clear hn
  go_enter Tryd.func31, Tryd.ntmps31
  go_wp2_with (go_at_call 59; refine (prefix_ok s 8 _ hs Hn.out hm).mono ?_; rintro e w' ⟨rfl, rfl⟩)
  go_wp2_with fail
  refine (op2_chain (Chain.start (b := w.heap.size) (o := 0) (v := .slice none 0 0) (l := []) (w := (w.alloc (.cells #[.slice none 0 0] 82)).alloc (.cells #[.int .i64 0, .int .i64 3] 3)) ⟨by simp, by simp, InsRow.nil _ _, by simp [Value.ownBlock], by simp; omega⟩) (by simp) 1 _ rfl (w.heap.size + 1) 0 3 2 (by simp) (by simp) (by simp)).mono ?_
  rintro e w1 ⟨rfl, C1⟩
  have HC1 := Lib.hid C1
  clear C1
  go_wp2_with fail
  refine (op3_chain (HC1.out.quiet ((Mod.refl _ _).alloc _)) (by simp) 8 _ rfl w1.heap.size 0 5 1 3 (by simp) (by simp) (by simp) (by simp)).mono ?_
  rintro e w2 ⟨rfl, C2⟩
  have HC2 := Lib.hid C2
  clear C2
  go_wp2_with fail
  refine (op3_chain (HC2.out.quiet ((Mod.refl _ _).alloc _)) (by simp) 7 _ rfl w2.heap.size 0 3 1 3 (by simp) (by simp) (by simp) (by simp)).mono ?_
  rintro e w3 ⟨rfl, C3⟩
  have HC3 := Lib.hid C3
  clear C3
  obtain ⟨v, ec, hv⟩ := HC3.out.made (w := w) (by simp [Value.ownBlock]) (((Mod.refl _ _).alloc _).alloc _) (Nat.le_refl _)
  have Hv := Lib.hid hv
  clear hv
  go_wp2
  go_ret2
  exact ⟨v, rfl, Hv.out⟩
def qtakeCode (p : List UInt8) : List Instr :=
  [⟨17, 0, 0, 0, p ++ [46, 97]⟩, ⟨0, 0, 0, 0, []⟩, ⟨0, 1, 1, 0, []⟩, ⟨9, 5, 0, 2, []⟩, ⟨14, 0, 0, 0, p ++ [46, 98]⟩, ⟨16, 0, 0, 0, p ++ [46, 97]⟩, ⟨17, 0, 0, 0, p ++ [46, 98]⟩, ⟨17, 0, 0, 0, p ++ [46, 99]⟩, ⟨6, 0, 5, 0, []⟩, ⟨6, 2, 0, 1, []⟩, ⟨14, 2, 0, 0, p ++ [46, 100]⟩, ⟨7, 5, 2, 0, []⟩, ⟨6, 4, 2, 0, []⟩, ⟨1, 3, 0, 0, []⟩, ⟨16, 0, 0, 0, p ++ [46, 102]⟩, ⟨17, 0, 0, 0, p ++ [46, 100]⟩, ⟨6, 1, 5, 1, []⟩, ⟨15, 0, 1, 0, p ++ [46, 101]⟩, ⟨16, 0, 0, 0, p ++ [46, 99]⟩, ⟨17, 0, 0, 0, p ++ [46, 101]⟩, ⟨0, 3, 0, 0, []⟩, ⟨0, 4, 0, 0, []⟩, ⟨17, 0, 0, 0, p ++ [46, 102]⟩, ⟨0, 0, 0, 0, []⟩, ⟨7, 5, 0, 2, []⟩, ⟨12, 0, 0, 0, []⟩]
set_option maxHeartbeats 16000000 in
theorem qtake_ok (s : ByteArray) (w : World) (hn : nameB s.data.toList = true) (hm : (s.size : Int) ≤ 8) :
    Calls Tryd.prog 32 #[.string s] w fun e w' => ∃ v, e = .returned (.tuple #[v, .nilIface]) ∧ Made (qtakeCode s.data.toList) w v w' := by
  have hs : s.size ≤ maxLen := by unfold maxLen; omega
  have hL : LookOk s 5 2 0 := ⟨hn, by omega, by decide, by decide, by decide, by decide, by decide, by decide, by decide, by decide⟩
  have Hn := Lib.hid hn
  have HL := Lib.hid hL
  clear hn hL
  go_enter Tryd.func32, Tryd.ntmps32
  go_wp2_with (go_at_call 59; refine (prefix_ok s 8 _ hs Hn.out hm).mono ?_; rintro e w' ⟨rfl, rfl⟩)
  go_wp2_with fail
  refine (take_ok s 5 2 0 _ HL.out).mono ?_
  rintro e wa ⟨va, rfl, hma⟩
  have C0 : Emit insT (w.alloc (.cells #[.slice none 0 0] 82)) w.heap.size 0 (.slice none 0 0) [] := ⟨by simp, by simp, InsRow.nil _ _, by simp [Value.ownBlock], by simp⟩
  have C1 := C0.quiet (Mod.below hma.2.1)
  have M1 := ((Mod.refl noF w).alloc (.cells #[.slice none 0 0] 82)).trans0 (Mod.below hma.2.1)
  obtain ⟨ga, ca, rfl, hsA⟩ := InsRow.src hma.1 (by simp [takeCode])
  have HsA := Lib.hid hsA
  have HC1 := Lib.hid C1
  have HM1 := Lib.hid M1
  clear hma hsA C0 C1 M1
  go_wp2_with fail
  refine (give_ok s 5 2 0 _ HL.out).mono ?_
  rintro e wb ⟨vb, rfl, hmb⟩
  have hqb := Mod.below hmb.2.1
  have C2 := HC1.out.quiet hqb
  have M2 := HM1.out.trans0 hqb
  have hsA2 : ∀ j u, (flat insV 0 (takeCode s.data.toList 5 2 0))[j]? = some u → wb.cell? ((⟨ga, 0, none⟩ : Addr).add j) = some u := fun j u hj => hqb.cell (HsA.out j u hj) (fun e => e)
  obtain ⟨gb, cb, rfl, hsB⟩ := InsRow.src hmb.1 (by simp [giveCode])
  have hgb : w.heap.size ≠ gb := fun e => by
    have h1 := hmb.2.2 gb rfl
    have h2 := HC1.out.lt
    omega
  have C2 := Chain.start C2
  have HC2 := Lib.hid C2
  have HM2 := Lib.hid M2
  have HsA2 := Lib.hid hsA2
  have HsB := Lib.hid hsB
  have Hgb := Lib.hid hgb
  clear hmb hqb hsA2 hsB hgb C2 M2 HC1 HM1 HsA
  go_wp2_with fail
  refine (more_chain HC2.out (by simp) (takeCode s.data.toList 5 2 0) ga ca HsA2.out (by simp [takeCode])).mono ?_
  rintro e w0 ⟨rfl, C⟩
  have HC0 := Lib.hid C
  clear C
  go_wp2_with fail
  refine (label_chain HC0.out (by simp [takeCode]) (s.data.toList ++ [46, 99]) _ (bytes_cat s _)).mono ?_
  rintro e w1 ⟨rfl, C1⟩
  have HC1 := Lib.hid C1
  clear C1 HC0
  go_wp2_with fail
  refine (op3_chain (HC1.out.quiet ((Mod.refl _ _).alloc _)) (by simp [takeCode]) 6 _ rfl w1.heap.size 0 5 0 3 (by simp) (by simp) (by simp) (by simp)).mono ?_
  rintro e w2 ⟨rfl, C2⟩
  have HC2 := Lib.hid C2
  clear C2 HC1
  go_wp2_with fail
  refine (op3_chain (HC2.out.quiet ((Mod.refl _ _).alloc _)) (by simp [takeCode]) 6 _ rfl w2.heap.size 2 0 1 3 (by simp) (by simp) (by simp) (by simp)).mono ?_
  rintro e w3 ⟨rfl, C3⟩
  have HC3 := Lib.hid C3
  clear C3 HC2
  go_wp2_with fail
  refine (to1_chain (HC3.out.quiet ((Mod.refl _ _).alloc _)) (by simp [takeCode]) 14 _ rfl (s.data.toList ++ [46, 100]) _ (bytes_cat s _) w3.heap.size 2 1 (by simp) (by simp)).mono ?_
  rintro e w4 ⟨rfl, C4⟩
  have HC4 := Lib.hid C4
  clear C4 HC3
  go_wp2_with fail
  refine (op3_chain (HC4.out.quiet ((Mod.refl _ _).alloc _)) (by simp [takeCode]) 7 _ rfl w4.heap.size 5 2 0 3 (by simp) (by simp) (by simp) (by simp)).mono ?_
  rintro e w5 ⟨rfl, C5⟩
  have HC5 := Lib.hid C5
  clear C5 HC4
  go_wp2_with fail
  refine (op3_chain (HC5.out.quiet ((Mod.refl _ _).alloc _)) (by simp [takeCode]) 6 _ rfl w5.heap.size 4 2 0 3 (by simp) (by simp) (by simp) (by simp)).mono ?_
  rintro e w6 ⟨rfl, C6⟩
  have HC6 := Lib.hid C6
  clear C6 HC5
  go_wp2_with fail
  refine (op2_chain (HC6.out.quiet ((Mod.refl _ _).alloc _)) (by simp [takeCode]) 1 _ rfl w6.heap.size 3 0 2 (by simp) (by simp) (by simp)).mono ?_
  rintro e w7 ⟨rfl, C7⟩
  have HC7 := Lib.hid C7
  clear C7 HC6
  go_wp2_with fail
  refine (to0_chain HC7.out (by simp [takeCode]) 16 _ rfl (s.data.toList ++ [46, 102]) _ (bytes_cat s _)).mono ?_
  rintro e w8 ⟨rfl, C8⟩
  have HC8 := Lib.hid C8
  clear C8 HC7
  go_wp2_with fail
  refine (label_chain HC8.out (by simp [takeCode]) (s.data.toList ++ [46, 100]) _ (bytes_cat s _)).mono ?_
  rintro e w9 ⟨rfl, C9⟩
  have HC9 := Lib.hid C9
  clear C9 HC8
  go_wp2_with fail
  refine (op3_chain (HC9.out.quiet ((Mod.refl _ _).alloc _)) (by simp [takeCode]) 6 _ rfl w9.heap.size 1 5 1 3 (by simp) (by simp) (by simp) (by simp)).mono ?_
  rintro e w10 ⟨rfl, C10⟩
  have HC10 := Lib.hid C10
  clear C10 HC9
  go_wp2_with fail
  refine (to2_chain (HC10.out.quiet ((Mod.refl _ _).alloc _)) (by simp [takeCode]) 15 _ rfl (s.data.toList ++ [46, 101]) _ (bytes_cat s _) w10.heap.size 0 1 2 (by simp) (by simp) (by simp)).mono ?_
  rintro e w11 ⟨rfl, C11⟩
  have HC11 := Lib.hid C11
  clear C11 HC10
  go_wp2_with fail
  refine (to0_chain HC11.out (by simp [takeCode]) 16 _ rfl (s.data.toList ++ [46, 99]) _ (bytes_cat s _)).mono ?_
  rintro e w12 ⟨rfl, C12⟩
  have HC12 := Lib.hid C12
  clear C12 HC11
  go_wp2_with fail
  refine (label_chain HC12.out (by simp [takeCode]) (s.data.toList ++ [46, 101]) _ (bytes_cat s _)).mono ?_
  rintro e w13 ⟨rfl, C13⟩
  have HC13 := Lib.hid C13
  clear C13 HC12
  go_wp2_with fail
  refine (op2_chain (HC13.out.quiet ((Mod.refl _ _).alloc _)) (by simp [takeCode]) 0 _ rfl w13.heap.size 3 0 2 (by simp) (by simp) (by simp)).mono ?_
  rintro e w14 ⟨rfl, C14⟩
  have HC14 := Lib.hid C14
  clear C14 HC13
  go_wp2_with fail
  refine (op2_chain (HC14.out.quiet ((Mod.refl _ _).alloc _)) (by simp [takeCode]) 0 _ rfl w14.heap.size 4 0 2 (by simp) (by simp) (by simp)).mono ?_
  rintro e w15 ⟨rfl, C15⟩
  have HC15 := Lib.hid C15
  clear C15 HC14
  go_wp2_with fail
  refine (label_chain HC15.out (by simp [takeCode]) (s.data.toList ++ [46, 102]) _ (bytes_cat s _)).mono ?_
  rintro e w16 ⟨rfl, C16⟩
  have HC16 := Lib.hid C16
  clear C16 HC15
  go_wp2_with fail
  refine (more_chain HC16.out (by simp [takeCode]) (giveCode 5 2 0) gb cb (fun j u hj => HC16.out.old rfl (fun e => Hgb.out (by have e := e.symm; simp only [Addr.add] at e; split at e <;> exact e)) (HsB.out j u hj)) (by simp [giveCode])).mono ?_
  rintro e wz ⟨rfl, CZ⟩
  obtain ⟨v, ec, hv⟩ := CZ.made (w := w) (by simp [Value.ownBlock]) HM2.out (Nat.le_refl _)
  have Hv := Lib.hid hv
  clear hv CZ
  go_wp2
  go_ret2
  exact ⟨v, rfl, Hv.out⟩
end Go.Proofs.YtppihkneeolomaaDoor
