/- Texts that belong together, joined. -/
import Derived.Test.YtppihkneeolomaaGreatDoorCBm6
import Derived.Test.YtppihkneeolomaaGreatDoorCBm7
import Derived.Test.YtppihkneeolomaaGreatDoorCBGraceB
import Derived.Test.YtppihkneeolomaaGreatDoorCBm5
import Derived.Test.YtppihkneeolomaaGreatDoorCBSkinds2
import Derived.Test.YtppihkneeolomaaGreatDoorCBm3
import Derived.ChangeArms
import Derived.Test.YtppihkneeolomaaGreatDoorCBm1
set_option linter.unusedVariables false
set_option linter.unusedSimpArgs false
set_option linter.unusedSectionVars false
/- package grace: flavours; begin. -/
section
namespace Go.Proofs.YtppihkneeolomaaGreatDoor
open Go.RowKit Qs Qh
variable {w0 w w1 : World} {b o : Nat} {v0 : Value} {l : List Instr} {br s : ByteArray} {fe jo co : Bool} {u : Value} {c : Nat}
theorem size_plus2 (s : ByteArray) (a b : UInt8) (hs : s.size ≤ 4) : (s ++ ⟨[a, b].toArray⟩ : ByteArray).size ≤ 100 := by
  rw [ByteArray.size_append]
  have : (⟨[a, b].toArray⟩ : ByteArray).size = 2 := rfl
  omega
theorem flavours1 (w : World) : Calls Tryz.prog 94 #[.int .i64 1] w fun e w' => e = .returned (.tuple #[.agg #[.string ⟨#[102, 101, 110, 99, 101]⟩, .bool true, .bool false, .bool false], .bool true]) ∧ Mod noF w w' := by
  go_enter Tryz.func94, Tryz.ntmps94
  go_wp2
  refine bodyPost_ret (v := .tuple #[.agg #[.string ⟨#[102, 101, 110, 99, 101]⟩, .bool true, .bool false, .bool false], .bool true]) (by simp [results, Tryz.results94, go_sem]) rfl ⟨rfl, ?_⟩
  repeat (first | exact Mod.refl _ _ | refine Mod.drew ?_ | refine Mod.drewN ?_ _ | refine Mod.alloc ?_ _ | refine Mod.setCell ?_ (fun h => absurd h (by simp)) _)
theorem flavours2 (w : World) : Calls Tryz.prog 94 #[.int .i64 2] w fun e w' => e = .returned (.tuple #[.agg #[.string ⟨#[102, 111, 114, 99, 101]⟩, .bool false, .bool false, .bool false], .bool true]) ∧ Mod noF w w' := by
  go_enter Tryz.func94, Tryz.ntmps94
  go_wp2
  refine bodyPost_ret (v := .tuple #[.agg #[.string ⟨#[102, 111, 114, 99, 101]⟩, .bool false, .bool false, .bool false], .bool true]) (by simp [results, Tryz.results94, go_sem]) rfl ⟨rfl, ?_⟩
  repeat (first | exact Mod.refl _ _ | refine Mod.drew ?_ | refine Mod.drewN ?_ _ | refine Mod.alloc ?_ _ | refine Mod.setCell ?_ (fun h => absurd h (by simp)) _)
theorem flavours3 (w : World) : Calls Tryz.prog 94 #[.int .i64 3] w fun e w' => e = .returned (.tuple #[.agg #[.string ⟨#[102, 101, 110, 99, 101]⟩, .bool false, .bool false, .bool true], .bool true]) ∧ Mod noF w w' := by
  go_enter Tryz.func94, Tryz.ntmps94
  go_wp2
  refine bodyPost_ret (v := .tuple #[.agg #[.string ⟨#[102, 101, 110, 99, 101]⟩, .bool false, .bool false, .bool true], .bool true]) (by simp [results, Tryz.results94, go_sem]) rfl ⟨rfl, ?_⟩
  repeat (first | exact Mod.refl _ _ | refine Mod.drew ?_ | refine Mod.drewN ?_ _ | refine Mod.alloc ?_ _ | refine Mod.setCell ?_ (fun h => absurd h (by simp)) _)
theorem flavours4 (w : World) : Calls Tryz.prog 94 #[.int .i64 4] w fun e w' => e = .returned (.tuple #[.agg #[.string ⟨#[102, 101, 110, 99, 101]⟩, .bool true, .bool true, .bool false], .bool true]) ∧ Mod noF w w' := by
  go_enter Tryz.func94, Tryz.ntmps94
  go_wp2
  refine bodyPost_ret (v := .tuple #[.agg #[.string ⟨#[102, 101, 110, 99, 101]⟩, .bool true, .bool true, .bool false], .bool true]) (by simp [results, Tryz.results94, go_sem]) rfl ⟨rfl, ?_⟩
  repeat (first | exact Mod.refl _ _ | refine Mod.drew ?_ | refine Mod.drewN ?_ _ | refine Mod.alloc ?_ _ | refine Mod.setCell ?_ (fun h => absurd h (by simp)) _)
theorem flavours_bad (f : Int) (hf : ¬ (1 ≤ f ∧ f ≤ 4)) (w : World) : Calls Tryz.prog 94 #[.int .i64 f] w fun e w' => e = .returned (.tuple #[.agg #[.string ⟨#[]⟩, .bool false, .bool false, .bool false], .bool false]) ∧ Mod noF w w' := by
  have d1 : (f == 1) = false := by rw [beq_eq_false_iff_ne]; omega
  have d2 : (f == 2) = false := by rw [beq_eq_false_iff_ne]; omega
  have d3 : (f == 3) = false := by rw [beq_eq_false_iff_ne]; omega
  have d4 : (f == 4) = false := by rw [beq_eq_false_iff_ne]; omega
  clear hf
  go_enter Tryz.func94, Tryz.ntmps94
  go_wp2
  refine bodyPost_ret (v := .tuple #[.agg #[.string ⟨#[]⟩, .bool false, .bool false, .bool false], .bool false]) (by simp [results, Tryz.results94, go_sem]) rfl ⟨rfl, ?_⟩
  repeat (first | exact Mod.refl _ _ | refine Mod.drew ?_ | refine Mod.drewN ?_ _ | refine Mod.alloc ?_ _ | refine Mod.setCell ?_ (fun h => absurd h (by simp)) _)
set_option maxHeartbeats 2000000 in
theorem begin1_ok (s : ByteArray) (w : World) (hn : nameB s.data.toList = true) (hs : s.size ≤ 4) :
    Calls Tryz.prog 79 #[.int .i64 1, .string s] w fun e w' => ∃ b, e = .returned (.tuple #[.pointer (some ⟨b, 0, none⟩), .nilIface]) ∧ Mod noF w w' ∧ w.heap.size ≤ b ∧ Emit insT w' b 4 (.slice none 0 0) [] ∧ MkAt w' b (opStr 12) true false false s := by
  have hsz : s.size ≤ maxLen := by unfold maxLen; omega
  have hm : (s.size : Int) ≤ 4 := by omega
  have Hn := Lib.hid hn
  clear hn
  go_enter Tryz.func79, Tryz.ntmps79
  go_wp2_with fail
  refine (flavours1 w).mono ?_
  rintro e w1 ⟨rfl, hm1⟩
  have Hm1 := Lib.hid hm1
  clear hm1
  go_wp2_with (go_at_call 63; refine (prefix_ok s 4 _ hsz Hn.out hm).mono ?_; rintro e w' ⟨rfl, rfl⟩)
  go_ret2
  have hs1 := Hm1.out.size
  exact ⟨w1.heap.size + 1, by simp, (Hm1.out.alloc _).alloc _, by omega, ⟨by simp, by simp, InsRow.nil _ _, by simp [Value.ownBlock], by simp⟩, ⟨by simp; rfl, by simp, by simp, by simp, by simp⟩⟩
set_option maxHeartbeats 2000000 in
theorem begin2_ok (s : ByteArray) (w : World) (hn : nameB s.data.toList = true) (hs : s.size ≤ 4) :
    Calls Tryz.prog 79 #[.int .i64 2, .string s] w fun e w' => ∃ b, e = .returned (.tuple #[.pointer (some ⟨b, 0, none⟩), .nilIface]) ∧ Mod noF w w' ∧ w.heap.size ≤ b ∧ Emit insT w' b 4 (.slice none 0 0) [] ∧ MkAt w' b (opStr 13) false false false s := by
  have hsz : s.size ≤ maxLen := by unfold maxLen; omega
  have hm : (s.size : Int) ≤ 4 := by omega
  have Hn := Lib.hid hn
  clear hn
  go_enter Tryz.func79, Tryz.ntmps79
  go_wp2_with fail
  refine (flavours2 w).mono ?_
  rintro e w1 ⟨rfl, hm1⟩
  have Hm1 := Lib.hid hm1
  clear hm1
  go_wp2_with (go_at_call 63; refine (prefix_ok s 4 _ hsz Hn.out hm).mono ?_; rintro e w' ⟨rfl, rfl⟩)
  go_ret2
  have hs1 := Hm1.out.size
  exact ⟨w1.heap.size + 1, by simp, (Hm1.out.alloc _).alloc _, by omega, ⟨by simp, by simp, InsRow.nil _ _, by simp [Value.ownBlock], by simp⟩, ⟨by simp; rfl, by simp, by simp, by simp, by simp⟩⟩
set_option maxHeartbeats 2000000 in
theorem begin3_ok (s : ByteArray) (w : World) (hn : nameB s.data.toList = true) (hs : s.size ≤ 4) :
    Calls Tryz.prog 79 #[.int .i64 3, .string s] w fun e w' => ∃ b, e = .returned (.tuple #[.pointer (some ⟨b, 0, none⟩), .nilIface]) ∧ Mod noF w w' ∧ w.heap.size ≤ b ∧ Emit insT w' b 4 (.slice none 0 0) [] ∧ MkAt w' b (opStr 12) false false true s := by
  have hsz : s.size ≤ maxLen := by unfold maxLen; omega
  have hm : (s.size : Int) ≤ 4 := by omega
  have Hn := Lib.hid hn
  clear hn
  go_enter Tryz.func79, Tryz.ntmps79
  go_wp2_with fail
  refine (flavours3 w).mono ?_
  rintro e w1 ⟨rfl, hm1⟩
  have Hm1 := Lib.hid hm1
  clear hm1
  go_wp2_with (go_at_call 63; refine (prefix_ok s 4 _ hsz Hn.out hm).mono ?_; rintro e w' ⟨rfl, rfl⟩)
  go_ret2
  have hs1 := Hm1.out.size
  exact ⟨w1.heap.size + 1, by simp, (Hm1.out.alloc _).alloc _, by omega, ⟨by simp, by simp, InsRow.nil _ _, by simp [Value.ownBlock], by simp⟩, ⟨by simp; rfl, by simp, by simp, by simp, by simp⟩⟩
set_option maxHeartbeats 2000000 in
theorem begin4_ok (s : ByteArray) (w : World) (hn : nameB s.data.toList = true) (hs : s.size ≤ 4) :
    Calls Tryz.prog 79 #[.int .i64 4, .string s] w fun e w' => ∃ b, e = .returned (.tuple #[.pointer (some ⟨b, 0, none⟩), .nilIface]) ∧ Mod noF w w' ∧ w.heap.size ≤ b ∧ Emit insT w' b 4 (.slice none 0 0) [] ∧ MkAt w' b (opStr 12) true true false s := by
  have hsz : s.size ≤ maxLen := by unfold maxLen; omega
  have hm : (s.size : Int) ≤ 4 := by omega
  have Hn := Lib.hid hn
  clear hn
  go_enter Tryz.func79, Tryz.ntmps79
  go_wp2_with fail
  refine (flavours4 w).mono ?_
  rintro e w1 ⟨rfl, hm1⟩
  have Hm1 := Lib.hid hm1
  clear hm1
  go_wp2_with (go_at_call 63; refine (prefix_ok s 4 _ hsz Hn.out hm).mono ?_; rintro e w' ⟨rfl, rfl⟩)
  go_ret2
  have hs1 := Hm1.out.size
  exact ⟨w1.heap.size + 1, by simp, (Hm1.out.alloc _).alloc _, by omega, ⟨by simp, by simp, InsRow.nil _ _, by simp [Value.ownBlock], by simp⟩, ⟨by simp; rfl, by simp, by simp, by simp, by simp⟩⟩
end Go.Proofs.YtppihkneeolomaaGreatDoor
end
/- package grace: cells at the beginning. -/
section
namespace Go.Proofs.YtppihkneeolomaaGreatDoor
open Go.RowKit Qs Qh
/-- Four words in a new block. -/
def FourH (w : World) (v : Value) (z : List Int) (w' : World) : Prop := ∃ b, v = .slice (some ⟨b, 0, none⟩) 4 4 ∧ w.heap.size ≤ b ∧ w'.heap[b]? = some (.cells (z.map (Value.int .i64)).toArray 3 (0, 0)) ∧ Mod noF w w'
def ownC (f : Nat) : List Int := [if f = 3 then 1 else 0, 0, 0, 0]
def lkC (f : Nat) : Int := if f = 4 then -1 else 2
theorem hhub1 (w : World) : Calls Tryz.prog 69 #[.int .i64 1] w fun e w' => ∃ v, e = .returned (.tuple #[v, .nilIface]) ∧ FourH w v [1, 0, 0, 0] w' := by
  go_enter Tryz.func69, Tryz.ntmps69
  go_wp2_with fail
  refine (flavours1 w).mono ?_
  rintro e w1 ⟨rfl, hm1⟩
  have hs1 := hm1.size
  have Hm1 := Lib.hid hm1
  clear hm1
  go_wp2
  go_ret2
  exact ⟨_, rfl, _, rfl, by first | omega | (simp; omega), by simpa using heap_alloc_new (w1.alloc (.cells #[.string ⟨#[102, 101, 110, 99, 101]⟩, .bool true, .bool false, .bool false] 139)) (.cells #[.int .i64 1, .int .i64 0, .int .i64 0, .int .i64 0] 3), (by repeat (first | exact Hm1.out | refine Mod.drew ?_ | refine Mod.drewN ?_ _ | refine Mod.alloc ?_ _ | refine Mod.setCell ?_ (fun h => absurd h (by have := Hm1.out.size; simp at *; omega)) _))⟩
theorem hown1 (w : World) : Calls Tryz.prog 71 #[.int .i64 1] w fun e w' => ∃ v, e = .returned (.tuple #[v, .nilIface]) ∧ FourH w v [0, 0, 0, 0] w' := by
  go_enter Tryz.func71, Tryz.ntmps71
  go_wp2_with fail
  refine (flavours1 w).mono ?_
  rintro e w1 ⟨rfl, hm1⟩
  have hs1 := hm1.size
  have Hm1 := Lib.hid hm1
  clear hm1
  go_wp2
  go_ret2
  exact ⟨_, rfl, _, rfl, by first | omega | (simp; omega), by simpa using heap_alloc_new (w1.alloc (.cells #[.string ⟨#[102, 101, 110, 99, 101]⟩, .bool true, .bool false, .bool false] 139)) (.cells #[.int .i64 0, .int .i64 0, .int .i64 0, .int .i64 0] 3), (by repeat (first | exact Hm1.out | refine Mod.drew ?_ | refine Mod.drewN ?_ _ | refine Mod.alloc ?_ _ | refine Mod.setCell ?_ (fun h => absurd h (by have := Hm1.out.size; simp at *; omega)) _))⟩
theorem hlink1 (w : World) : Calls Tryz.prog 70 #[.int .i64 1] w fun e w' => e = .returned (.tuple #[.int .i64 2, .nilIface]) ∧ Mod noF w w' := by
  go_enter Tryz.func70, Tryz.ntmps70
  go_wp2_with fail
  refine (flavours1 w).mono ?_
  rintro e w1 ⟨rfl, hm1⟩
  have hs1 := hm1.size
  have Hm1 := Lib.hid hm1
  clear hm1
  go_wp2
  go_ret2
  exact ⟨rfl, (by repeat (first | exact Hm1.out | refine Mod.drew ?_ | refine Mod.drewN ?_ _ | refine Mod.alloc ?_ _ | refine Mod.setCell ?_ (fun h => absurd h (by have := Hm1.out.size; simp at *; omega)) _))⟩
theorem hhub2 (w : World) : Calls Tryz.prog 69 #[.int .i64 2] w fun e w' => ∃ v, e = .returned (.tuple #[v, .nilIface]) ∧ FourH w v [1, 0, 0, 0] w' := by
  go_enter Tryz.func69, Tryz.ntmps69
  go_wp2_with fail
  refine (flavours2 w).mono ?_
  rintro e w1 ⟨rfl, hm1⟩
  have hs1 := hm1.size
  have Hm1 := Lib.hid hm1
  clear hm1
  go_wp2
  go_ret2
  exact ⟨_, rfl, _, rfl, by first | omega | (simp; omega), by simpa using heap_alloc_new (w1.alloc (.cells #[.string ⟨#[102, 111, 114, 99, 101]⟩, .bool false, .bool false, .bool false] 139)) (.cells #[.int .i64 1, .int .i64 0, .int .i64 0, .int .i64 0] 3), (by repeat (first | exact Hm1.out | refine Mod.drew ?_ | refine Mod.drewN ?_ _ | refine Mod.alloc ?_ _ | refine Mod.setCell ?_ (fun h => absurd h (by have := Hm1.out.size; simp at *; omega)) _))⟩
theorem hown2 (w : World) : Calls Tryz.prog 71 #[.int .i64 2] w fun e w' => ∃ v, e = .returned (.tuple #[v, .nilIface]) ∧ FourH w v [0, 0, 0, 0] w' := by
  go_enter Tryz.func71, Tryz.ntmps71
  go_wp2_with fail
  refine (flavours2 w).mono ?_
  rintro e w1 ⟨rfl, hm1⟩
  have hs1 := hm1.size
  have Hm1 := Lib.hid hm1
  clear hm1
  go_wp2
  go_ret2
  exact ⟨_, rfl, _, rfl, by first | omega | (simp; omega), by simpa using heap_alloc_new (w1.alloc (.cells #[.string ⟨#[102, 111, 114, 99, 101]⟩, .bool false, .bool false, .bool false] 139)) (.cells #[.int .i64 0, .int .i64 0, .int .i64 0, .int .i64 0] 3), (by repeat (first | exact Hm1.out | refine Mod.drew ?_ | refine Mod.drewN ?_ _ | refine Mod.alloc ?_ _ | refine Mod.setCell ?_ (fun h => absurd h (by have := Hm1.out.size; simp at *; omega)) _))⟩
theorem hlink2 (w : World) : Calls Tryz.prog 70 #[.int .i64 2] w fun e w' => e = .returned (.tuple #[.int .i64 2, .nilIface]) ∧ Mod noF w w' := by
  go_enter Tryz.func70, Tryz.ntmps70
  go_wp2_with fail
  refine (flavours2 w).mono ?_
  rintro e w1 ⟨rfl, hm1⟩
  have hs1 := hm1.size
  have Hm1 := Lib.hid hm1
  clear hm1
  go_wp2
  go_ret2
  exact ⟨rfl, (by repeat (first | exact Hm1.out | refine Mod.drew ?_ | refine Mod.drewN ?_ _ | refine Mod.alloc ?_ _ | refine Mod.setCell ?_ (fun h => absurd h (by have := Hm1.out.size; simp at *; omega)) _))⟩
theorem hhub3 (w : World) : Calls Tryz.prog 69 #[.int .i64 3] w fun e w' => ∃ v, e = .returned (.tuple #[v, .nilIface]) ∧ FourH w v [1, 0, 0, 0] w' := by
  go_enter Tryz.func69, Tryz.ntmps69
  go_wp2_with fail
  refine (flavours3 w).mono ?_
  rintro e w1 ⟨rfl, hm1⟩
  have hs1 := hm1.size
  have Hm1 := Lib.hid hm1
  clear hm1
  go_wp2
  go_ret2
  exact ⟨_, rfl, _, rfl, by first | omega | (simp; omega), by simpa using heap_alloc_new (w1.alloc (.cells #[.string ⟨#[102, 101, 110, 99, 101]⟩, .bool false, .bool false, .bool true] 139)) (.cells #[.int .i64 1, .int .i64 0, .int .i64 0, .int .i64 0] 3), (by repeat (first | exact Hm1.out | refine Mod.drew ?_ | refine Mod.drewN ?_ _ | refine Mod.alloc ?_ _ | refine Mod.setCell ?_ (fun h => absurd h (by have := Hm1.out.size; simp at *; omega)) _))⟩
theorem hown3 (w : World) : Calls Tryz.prog 71 #[.int .i64 3] w fun e w' => ∃ v, e = .returned (.tuple #[v, .nilIface]) ∧ FourH w v [1, 0, 0, 0] w' := by
  go_enter Tryz.func71, Tryz.ntmps71
  go_wp2_with fail
  refine (flavours3 w).mono ?_
  rintro e w1 ⟨rfl, hm1⟩
  have hs1 := hm1.size
  have Hm1 := Lib.hid hm1
  clear hm1
  go_wp2
  go_ret2
  exact ⟨_, rfl, _, rfl, by first | omega | (simp; omega), by simpa using heap_alloc_new (w1.alloc (.cells #[.string ⟨#[102, 101, 110, 99, 101]⟩, .bool false, .bool false, .bool true] 139)) (.cells #[.int .i64 1, .int .i64 0, .int .i64 0, .int .i64 0] 3), (by repeat (first | exact Hm1.out | refine Mod.drew ?_ | refine Mod.drewN ?_ _ | refine Mod.alloc ?_ _ | refine Mod.setCell ?_ (fun h => absurd h (by have := Hm1.out.size; simp at *; omega)) _))⟩
theorem hlink3 (w : World) : Calls Tryz.prog 70 #[.int .i64 3] w fun e w' => e = .returned (.tuple #[.int .i64 2, .nilIface]) ∧ Mod noF w w' := by
  go_enter Tryz.func70, Tryz.ntmps70
  go_wp2_with fail
  refine (flavours3 w).mono ?_
  rintro e w1 ⟨rfl, hm1⟩
  have hs1 := hm1.size
  have Hm1 := Lib.hid hm1
  clear hm1
  go_wp2
  go_ret2
  exact ⟨rfl, (by repeat (first | exact Hm1.out | refine Mod.drew ?_ | refine Mod.drewN ?_ _ | refine Mod.alloc ?_ _ | refine Mod.setCell ?_ (fun h => absurd h (by have := Hm1.out.size; simp at *; omega)) _))⟩
theorem hhub4 (w : World) : Calls Tryz.prog 69 #[.int .i64 4] w fun e w' => ∃ v, e = .returned (.tuple #[v, .nilIface]) ∧ FourH w v [1, 0, 0, 0] w' := by
  go_enter Tryz.func69, Tryz.ntmps69
  go_wp2_with fail
  refine (flavours4 w).mono ?_
  rintro e w1 ⟨rfl, hm1⟩
  have hs1 := hm1.size
  have Hm1 := Lib.hid hm1
  clear hm1
  go_wp2
  go_ret2
  exact ⟨_, rfl, _, rfl, by first | omega | (simp; omega), by simpa using heap_alloc_new (w1.alloc (.cells #[.string ⟨#[102, 101, 110, 99, 101]⟩, .bool true, .bool true, .bool false] 139)) (.cells #[.int .i64 1, .int .i64 0, .int .i64 0, .int .i64 0] 3), (by repeat (first | exact Hm1.out | refine Mod.drew ?_ | refine Mod.drewN ?_ _ | refine Mod.alloc ?_ _ | refine Mod.setCell ?_ (fun h => absurd h (by have := Hm1.out.size; simp at *; omega)) _))⟩
theorem hown4 (w : World) : Calls Tryz.prog 71 #[.int .i64 4] w fun e w' => ∃ v, e = .returned (.tuple #[v, .nilIface]) ∧ FourH w v [0, 0, 0, 0] w' := by
  go_enter Tryz.func71, Tryz.ntmps71
  go_wp2_with fail
  refine (flavours4 w).mono ?_
  rintro e w1 ⟨rfl, hm1⟩
  have hs1 := hm1.size
  have Hm1 := Lib.hid hm1
  clear hm1
  go_wp2
  go_ret2
  exact ⟨_, rfl, _, rfl, by first | omega | (simp; omega), by simpa using heap_alloc_new (w1.alloc (.cells #[.string ⟨#[102, 101, 110, 99, 101]⟩, .bool true, .bool true, .bool false] 139)) (.cells #[.int .i64 0, .int .i64 0, .int .i64 0, .int .i64 0] 3), (by repeat (first | exact Hm1.out | refine Mod.drew ?_ | refine Mod.drewN ?_ _ | refine Mod.alloc ?_ _ | refine Mod.setCell ?_ (fun h => absurd h (by have := Hm1.out.size; simp at *; omega)) _))⟩
theorem hlink4 (w : World) : Calls Tryz.prog 70 #[.int .i64 4] w fun e w' => e = .returned (.tuple #[.int .i64 (-1), .nilIface]) ∧ Mod noF w w' := by
  go_enter Tryz.func70, Tryz.ntmps70
  go_wp2_with fail
  refine (flavours4 w).mono ?_
  rintro e w1 ⟨rfl, hm1⟩
  have hs1 := hm1.size
  have Hm1 := Lib.hid hm1
  clear hm1
  go_wp2
  go_ret2
  exact ⟨rfl, (by repeat (first | exact Hm1.out | refine Mod.drew ?_ | refine Mod.drewN ?_ _ | refine Mod.alloc ?_ _ | refine Mod.setCell ?_ (fun h => absurd h (by have := Hm1.out.size; simp at *; omega)) _))⟩
theorem hhub_any {f : Nat} (h1 : 1 ≤ f) (h4 : f ≤ 4) (w : World) : Calls Tryz.prog 69 #[.int .i64 f] w fun e w' => ∃ v, e = .returned (.tuple #[v, .nilIface]) ∧ FourH w v [1, 0, 0, 0] w' := by
  match f, h1, h4 with
  | 1, _, _ => exact hhub1 w
  | 2, _, _ => exact hhub2 w
  | 3, _, _ => exact hhub3 w
  | 4, _, _ => exact hhub4 w
theorem hown_any {f : Nat} (h1 : 1 ≤ f) (h4 : f ≤ 4) (w : World) : Calls Tryz.prog 71 #[.int .i64 f] w fun e w' => ∃ v, e = .returned (.tuple #[v, .nilIface]) ∧ FourH w v (ownC f) w' := by
  match f, h1, h4 with
  | 1, _, _ => exact hown1 w
  | 2, _, _ => exact hown2 w
  | 3, _, _ => exact hown3 w
  | 4, _, _ => exact hown4 w
theorem hlink_any {f : Nat} (h1 : 1 ≤ f) (h4 : f ≤ 4) (w : World) : Calls Tryz.prog 70 #[.int .i64 f] w fun e w' => e = .returned (.tuple #[.int .i64 (lkC f), .nilIface]) ∧ Mod noF w w' := by
  match f, h1, h4 with
  | 1, _, _ => exact hlink1 w
  | 2, _, _ => exact hlink2 w
  | 3, _, _ => exact hlink3 w
  | 4, _, _ => exact hlink4 w
theorem hub_err (f : Int) (hf : ¬ (1 ≤ f ∧ f ≤ 4)) (w : World) (a : Nat → Addr) (E : ErrsAt w a) :
    Calls Tryz.prog 69 #[.int .i64 f] w fun e w' => e = .returned (.tuple #[.slice none 0 0, errV a 1]) ∧ Mod noF w w' := by
  have hev := fun (w1 : World) (h : Mod noF w w1) => (E.keep h).v1
  have hfl := flavours_bad f hf
  unfold errV at hev ⊢
  have Hev := Lib.hid hev
  clear hf E hev
  go_enter Tryz.func69, Tryz.ntmps69
  go_wp2_with fail
  refine (hfl w).mono ?_
  rintro e w1 ⟨rfl, hm1⟩
  have hv0 := Hev.out _ hm1
  have hv := Hev.out _ (hm1.alloc (.cells #[.string ⟨#[]⟩, .bool false, .bool false, .bool false] 139))
  have Hm1 := Lib.hid hm1
  clear hm1
  go_wp2
  go_region
  go_wp2
  go_ret2
  exact ⟨rfl, (by repeat (first | exact Hm1.out | refine Mod.drew ?_ | refine Mod.drewN ?_ _ | refine Mod.alloc ?_ _ | refine Mod.setCell ?_ (fun h => absurd h (by have := Hm1.out.size; simp at *; omega)) _))⟩
end Go.Proofs.YtppihkneeolomaaGreatDoor
end
/- package client: Base.Grace: own cells, a hub, registers that name them. -/
section
namespace Qc
def gOwnC (f t : Nat) : List Int := [if f = 3 then 1 else 0, if f = 4 then 0 else (t : Int), 0, 0]
def gHubC (f n : Nat) : List Int := [1, 0, if f = 4 then 0 else (n : Int), 0]
def gReg0 (_ : Nat) : List Int := [0, 0, 0, 0, 0, 0, 0, 0]
def gReg1 (t : Nat) : List Int := [0, 0, 0, 0, 0, 0, (t : Int) + 1, 0]
def gReg2 (n t : Nat) : List Int := [0, 0, 0, 0, 0, 0, (t : Int) + 1, (n : Int) + 1]
end Qc
namespace Go.Proofs.YtppihkneeolomaaGreatDoor
open Go.RowKit Qs Qh Qc
variable {w wr w1 w2 w' : World} {B lo hi S : Nat} {rv : Value} {rb : Nat → Nat} {rows regs : List (List Int)} {f n : Nat}
/-- Between Grace's steps. -/
structure GrRel (w : World) (B lo hi S : Nat) (rv : Value) (rb : Nat → Nat) (rows regs : List (List Int)) (wr : World) : Prop where
  mod : Mod (fun x => x = B ∨ (lo ≤ x ∧ x < hi)) w wr
  init : ∃ iv ib, BaseAt wr B iv rv ∧ Rws S wr.heap.size wr iv rows ib
  regs : Rws lo hi wr rv regs rb
structure GrOk (w : World) (B lo hi S : Nat) : Prop where
  b : B < lo
  h : lo ≤ hi
  s : hi ≤ S
  w : S ≤ w.heap.size
theorem GrRel.quiet (R : GrRel w B lo hi S rv rb rows regs wr) (P : GrOk w B lo hi S) (h : Mod noF wr w1) : GrRel w B lo hi S rv rb rows regs w1 := by
  obtain ⟨iv, ib, hB, hI⟩ := R.init
  exact ⟨R.mod.trans0 h, ⟨iv, ib, h.heap hB (fun e => e), (hI.keep h (fun _ _ _ e => e)).more h.size⟩, R.regs.keep h (fun _ _ _ e => e)⟩
theorem GrRel.set (R : GrRel w B lo hi S rv rb rows regs wr) (P : GrOk w B lo hi S) {k j : Nat} {l : List Int} {x : Int} (hl : regs[k]? = some l) (hj : j < l.length) :
    GrRel w B lo hi S rv rb rows (regs.set k (l.set j x)) (wr.setCell ⟨rb k, j, none⟩ (.int .i64 x)) := by
  obtain ⟨iv, ib, hB, hI⟩ := R.init
  obtain ⟨R1, hM⟩ := R.regs.set (x := x) hl hj
  have hb := R.regs.bin k l hl (by omega)
  obtain ⟨p1, p2, p3, p4⟩ := P
  have hs : (wr.setCell ⟨rb k, j, none⟩ (.int .i64 x)).heap.size = wr.heap.size := by simp [World.setCell]
  exact ⟨R.mod.trans hM fun x _ e => by rw [e]; exact .inr hb, ⟨iv, ib, hM.heap hB (fun e => by omega), hs ▸ hI.keep hM (fun y h1 h2 e => by omega)⟩, R1⟩
end Go.Proofs.YtppihkneeolomaaGreatDoor
end
/- package client: Base.Grace: its walk. -/
section
namespace Go.Proofs.YtppihkneeolomaaGreatDoor
open Go.RowKit Qs Qh Qc
variable {w wr w1 w2 w' : World} {B lo hi S : Nat} {rv iv : Value} {rb : Nat → Nat} {rows regs : List (List Int)} {f n : Nat}
theorem ownCn (hf : ¬ f = 4) (k : Nat) : (ownC f).set 1 (k : Int) = gOwnC f k := by unfold ownC gOwnC; rw [if_neg hf]; rfl
theorem hubCn (hf : ¬ f = 4) (n : Nat) : ([1, 0, 0, 0] : List Int).set 2 (n : Int) = gHubC f n := by unfold gHubC; rw [if_neg hf]; rfl
theorem set_row {w : World} {g : Nat} {l : List Int} {T : TypeId} (h : w.heap[g]? = some (.cells (l.map (Value.int .i64)).toArray T (0, 0))) (j : Nat) (x : Int) : (w.setCell ⟨g, j, none⟩ (.int .i64 x)).heap[g]? = some (.cells ((l.set j x).map (Value.int .i64)).toArray T (0, 0)) := by
  rw [Qh.heap_setCell_same h]
  congr 2
  simp [List.map_set]
set_option maxRecDepth 4000 in
set_option maxHeartbeats 16000000 in
theorem grace_ok (h1 : 1 ≤ f) (h4 : f ≤ 4) (hn1 : 1 ≤ n) (hn : n ≤ 6) (hB : BaseAt w B (.slice none 0 0) rv) (R : Rws lo hi w rv (List.replicate n z8) rb) (hBl : B < lo) (hlh : lo ≤ hi) (hhi : hi ≤ w.heap.size) :
    Calls Tryz.prog 44 #[.pointer (some ⟨B, 0, none⟩), .int .i64 (f : Nat)] w fun e w' => e = .returned .nilIface ∧ ∃ iv ib, BaseAt w' B iv rv ∧ Rws lo hi w' rv (rowsF (gReg2 n) n) rb ∧ Rws w.heap.size w'.heap.size w' iv (rowsF (gOwnC f) n ++ [gHubC f n]) ib ∧ Mod (fun x => x = B ∨ (lo ≤ x ∧ x < hi)) w w' := by
  have hub := hhub_any h1 h4 w
  have hlk := fun w => hlink_any h1 h4 w
  have how := fun w => hown_any h1 h4 w
  have HB := Lib.hid hB
  have HR := Lib.hid R
  have Hub := Lib.hid hub
  have Hlk := Lib.hid hlk
  have How := Lib.hid how
  obtain ⟨ra, rc, hrv, -⟩ := R.cell
  rw [List.length_replicate] at hrv
  subst hrv
  clear hB R hub hlk how
  go_enter Tryz.func44, Tryz.ntmps44
  go_wp2_with fail
  refine Hub.out.mono ?_
  rintro e w1 ⟨v, rfl, gh, rfl, hgh, hhc, hm1⟩
  have Hm1 := Lib.hid hm1
  have Hhc := Lib.hid hhc
  clear hm1 hhc Hub
  go_wp2_with fail
  refine (Hlk.out w1).mono ?_
  rintro e w2 ⟨rfl, hm2⟩
  have hm02 := Hm1.out.trans0 hm2
  have hs2 := hm2.size
  have hs1 := lt_of_block Hhc.out
  have hsw := hm02.size
  have hB2 := hm02.heap HB.out (fun e => e)
  have b2 : w2.cell? ⟨B, 2, none⟩ = some (.slice ra n rc) := by rw [cell_of_heap hB2]; rfl
  have hgh2 : gh < w2.heap.size := by omega
  have P : GrOk w2 B lo hi w2.heap.size := ⟨hBl, hlh, by omega, Nat.le_refl _⟩
  have HP := Lib.hid P
  have hR0 : GrRel w2 B lo hi w2.heap.size (.slice ra n rc) rb (rowsF (gOwnC f) 0) (rowsF (mixF gReg1 gReg0 0) n) w2 := by
    refine ⟨Mod.refl _ _, ⟨_, fun _ => 0, hB2, Rws.nil _ _ _ _⟩, ?_⟩
    rw [mix_zero, show gReg0 = fun _ => z8 from rfl, ← rows_replicate]
    exact HR.out.keep hm02 (fun _ _ _ e => e)
  have Hh2 := Lib.hid (hm2.heap Hhc.out (fun e => e))
  have Hm02 := Lib.hid hm02
  have HR0 := Lib.hid hR0
  clear hm2 hm02 hB2 P hR0 Hm1 Hhc
  generalize hlkv : lkC f = lk at *
  go_wp2
  go_loopw [9, 34] (fun c i wr => ∃ k : Nat, k ≤ n ∧ c = .int .i64 k ∧ i = .int .i64 k ∧ GrRel w2 B lo hi w2.heap.size (.slice ra n rc) rb (rowsF (gOwnC f) k) (rowsF (mixF gReg1 gReg0 k) n) wr) (fun _ i _ => n - (intOf i).toNat)
  case atStart => exact ⟨0, Nat.zero_le _, rfl, rfl, HR0.out⟩
  case round =>
    generalize wr = wo at *
    obtain ⟨k, hk, rfl, rfl, hG⟩ := hrel
    by_cases hlt : k < n
    · have hd : decide ((k : Int) < (n : Int)) = true := by simp; omega
      have hki : (k : Int) < (n : Int) := by omega
      have HG := Lib.hid hG
      clear hG
      go_wp2_with fail
      refine (How.out wo).mono ?_
      rintro e w3 ⟨v, rfl, g, rfl, hg, hc, hm3⟩
      obtain ⟨iv, ib, hB, hI⟩ := HG.out.init
      have hso : w2.heap.size ≤ wo.heap.size := HG.out.mod.size
      have hs3 := hm3.size
      have hB3 := hm3.heap hB (fun e => e)
      have hI3 := hI.keep hm3 (fun _ _ _ e => e)
      have hR3 := HG.out.regs.keep hm3 (fun _ _ _ e => e)
      have hM3 := HG.out.mod.trans0 hm3
      have hgl := lt_of_block hc
      have Hso := Lib.hid hso
      have Hg := Lib.hid hg
      by_cases hf4 : f = 4
      · obtain rfl : lk = -1 := by rw [← hlkv, hf4]; rfl
        have hrow : w3.heap[g]? = some (.cells ((gOwnC f k).map (Value.int .i64)).toArray 3 (0, 0)) := by subst hf4; exact hc
        have Hrow := Lib.hid hrow
        have HBq := Lib.hid hB3
        have HIq := Lib.hid hI3
        have HRq := Lib.hid hR3
        have HMq := Lib.hid hM3
        have Hsq := Lib.hid hs3
        clear hB hI hB3 hI3 hR3 hM3 hc hrow hs3 hso hg hm3 hlkv HG hf4
        go_wp2_with fail
        refine (cell_ok (l := gOwnC f k) (r := g) HBq.out HIq.out (by have := Hsq.out; omega) (by have := Hsq.out; have := Hso.out; omega) (by omega) (by rw [rowsF_len]; omega) (fun h => ⟨Hg.out, by have := Hso.out; have := Hg.out; omega⟩) (fun h => Hrow.out)).mono ?_
        rintro e w5 ⟨rfl, iv5, hB5, ⟨ib5, hI5⟩, hm5⟩
        rw [rowsF_push] at hI5
        rw [rowsF_len]
        have hvi := HIq.out.vin
        have hG5 : GrRel w2 B lo hi w2.heap.size (.slice ra n rc) rb (rowsF (gOwnC f) (k + 1)) (rowsF (mixF gReg1 gReg0 k) n) w5 := by
          refine ⟨HMq.out.trans hm5 fun x hx e => ?_, ⟨iv5, ib5, hB5, hI5⟩, HRq.out.keep hm5 fun x y1 y2 e => ?_⟩
          · rcases e with e | e
            · exact .inl e
            · have := (hvi x e).1; omega
          · rcases e with e | e
            · omega
            · have := (hvi x e).1; omega
        obtain ⟨ra', rc', hrv', hrx⟩ := hG5.regs.cell
        rw [rowsF_len] at hrv'
        cases hrv'
        obtain ⟨gb, rfl, hgb, hrk⟩ := hrx k (gReg0 k) (mix_get hlt)
        have hrow := hG5.regs.row k _ (mix_get hlt) (by simp [gReg0, gReg1])
        have b2 : w5.cell? ⟨B, 2, none⟩ = some (.slice (some ⟨gb, 0, none⟩) n rc) := by rw [cell_of_heap hB5]; rfl
        have b3 : w5.cell? ⟨gb, k, none⟩ = some (.slice (some ⟨rb k, 0, none⟩) 8 8) := hrk
        have b4 : w5.cell? ⟨rb k, 6, none⟩ = some (.int .i64 0) := by rw [cell_of_heap hrow]; rfl
        have b5 := free_of_heap hrow 6
        have hset := hG5.set HP.out (k := k) (j := 6) (x := (k : Int) + 1) (mix_get hlt) (by simp [gReg0])
        rw [show (gReg0 k).set 6 ((k : Int) + 1) = gReg1 k from rfl, mix_set hlt] at hset
        have Hset := Lib.hid hset
        clear hG5 hrx hrk hrow hset hB5 hI5 hm5 hvi
        go_wp2
        go_roundw
        case rel => exact ⟨k + 1, by omega, by go_num, by go_num, Hset.out⟩
        case measure => simp [intOf]; omega
      · obtain rfl : lk = 2 := by rw [← hlkv]; unfold lkC; rw [if_neg hf4]
        have q1 : w3.cell? ⟨g, 1, none⟩ = some (.int .i64 0) := by rw [cell_of_heap hc]; rfl
        have q2 := free_of_heap hc 1
        have hMs : Mod (fun x => x = g) w3 (w3.setCell ⟨g, 1, none⟩ (.int .i64 k)) := (Mod.refl (fun x => x = g) w3).setCell (fun _ => rfl) _
        have hrow := set_row hc 1 (k : Int)
        rw [ownCn hf4 k] at hrow
        have Hrow := Lib.hid hrow
        have HBq := Lib.hid (hMs.heap hB3 (fun e => by have := lt_of_block hB; omega))
        have HIq := Lib.hid (hI3.keep hMs (fun x y1 y2 e => by omega))
        have HRq := Lib.hid (hR3.keep hMs (fun x y1 y2 e => by omega))
        have HMq := Lib.hid (hM3.trans hMs (fun x hx e => by omega))
        have Hsq := Lib.hid (Nat.le_trans hs3 hMs.size)
        clear hB hI hB3 hI3 hR3 hM3 hc hrow hs3 hso hg hm3 hMs hlkv HG hf4
        go_wp2_with fail
        refine (cell_ok (l := gOwnC f k) (r := g) HBq.out HIq.out (by have := Hsq.out; omega) (by have := Hsq.out; have := Hso.out; omega) (by omega) (by rw [rowsF_len]; omega) (fun h => ⟨Hg.out, by have := Hso.out; have := Hg.out; omega⟩) (fun h => Hrow.out)).mono ?_
        rintro e w5 ⟨rfl, iv5, hB5, ⟨ib5, hI5⟩, hm5⟩
        rw [rowsF_push] at hI5
        rw [rowsF_len]
        have hvi := HIq.out.vin
        have hG5 : GrRel w2 B lo hi w2.heap.size (.slice ra n rc) rb (rowsF (gOwnC f) (k + 1)) (rowsF (mixF gReg1 gReg0 k) n) w5 := by
          refine ⟨HMq.out.trans hm5 fun x hx e => ?_, ⟨iv5, ib5, hB5, hI5⟩, HRq.out.keep hm5 fun x y1 y2 e => ?_⟩
          · rcases e with e | e
            · exact .inl e
            · have := (hvi x e).1; omega
          · rcases e with e | e
            · omega
            · have := (hvi x e).1; omega
        obtain ⟨ra', rc', hrv', hrx⟩ := hG5.regs.cell
        rw [rowsF_len] at hrv'
        cases hrv'
        obtain ⟨gb, rfl, hgb, hrk⟩ := hrx k (gReg0 k) (mix_get hlt)
        have hrow := hG5.regs.row k _ (mix_get hlt) (by simp [gReg0, gReg1])
        have b2 : w5.cell? ⟨B, 2, none⟩ = some (.slice (some ⟨gb, 0, none⟩) n rc) := by rw [cell_of_heap hB5]; rfl
        have b3 : w5.cell? ⟨gb, k, none⟩ = some (.slice (some ⟨rb k, 0, none⟩) 8 8) := hrk
        have b4 : w5.cell? ⟨rb k, 6, none⟩ = some (.int .i64 0) := by rw [cell_of_heap hrow]; rfl
        have b5 := free_of_heap hrow 6
        have hset := hG5.set HP.out (k := k) (j := 6) (x := (k : Int) + 1) (mix_get hlt) (by simp [gReg0])
        rw [show (gReg0 k).set 6 ((k : Int) + 1) = gReg1 k from rfl, mix_set hlt] at hset
        have Hset := Lib.hid hset
        clear hG5 hrx hrk hrow hset hB5 hI5 hm5 hvi
        go_wp2
        go_roundw
        case rel => exact ⟨k + 1, by omega, by go_num, by go_num, Hset.out⟩
        case measure => simp [intOf]; omega
    · have hd : decide ((k : Int) < (n : Int)) = false := by simp; omega
      obtain rfl : n = k := by omega
      have HG := Lib.hid hG
      clear hG
      obtain ⟨iv, ib, hB, hI⟩ := HG.out.init
      have hso : w2.heap.size ≤ wo.heap.size := HG.out.mod.size
      have hhub := HG.out.mod.heap Hh2.out (fun e => by omega)
      have hR3 := HG.out.regs
      rw [mix_all] at hR3
      have hM3 : Qh.Mod (fun x => x = B ∨ (lo ≤ x ∧ x < hi)) w wo := Hm02.out.any.trans HG.out.mod (fun x _ e => e)
      have Hso := Lib.hid hso
      by_cases hf4 : f = 4
      · obtain rfl : lk = -1 := by rw [← hlkv, hf4]; rfl
        have hrow : wo.heap[gh]? = some (.cells ((gHubC f n).map (Value.int .i64)).toArray 3 (0, 0)) := by subst hf4; exact hhub
        have Hrow := Lib.hid hrow
        have HBq := Lib.hid hB
        have HIq := Lib.hid hI
        have HRq := Lib.hid hR3
        have HMq := Lib.hid hM3
        have Hsq := Lib.hid (Nat.le_refl wo.heap.size)
        clear hB hI hR3 hM3 hhub hrow hso hlkv HG hf4
        go_wp2_with fail
        refine (cell_ok0 (lo0 := w.heap.size) (l := gHubC f n) (r := gh) (by omega) HBq.out HIq.out (by have := Hsq.out; omega) (by have := Hsq.out; have := Hso.out; omega) (by omega) (by rw [rowsF_len]; omega) (fun h => ⟨hgh, by omega, .inr hgh2⟩) (fun h => Hrow.out)).mono ?_
        rintro e w5 ⟨rfl, iv5, hB5, ⟨ib5, hI5⟩, hm5⟩
        rw [rowsF_len]
        have hvi := HIq.out.vin
        have hP2 : GrOk w B lo hi w.heap.size := ⟨hBl, hlh, hhi, Nat.le_refl _⟩
        have HP2 := Lib.hid hP2
        have hG5 : GrRel w B lo hi w.heap.size (.slice ra n rc) rb (rowsF (gOwnC f) n ++ [gHubC f n]) (rowsF (mixF (gReg2 n) gReg1 0) n) w5 := by
          refine ⟨HMq.out.trans hm5 fun x hx e => ?_, ⟨iv5, ib5, hB5, hI5⟩, ?_⟩
          · rcases e with e | e
            · exact .inl e
            · have := (hvi x e).1; omega
          · rw [mix_zero]
            refine HRq.out.keep hm5 fun x y1 y2 e => ?_
            rcases e with e | e
            · omega
            · have := (hvi x e).1; omega
        have HG5 := Lib.hid hG5
        have b2 : w5.cell? ⟨B, 2, none⟩ = some (.slice ra n rc) := by rw [cell_of_heap hB5]; rfl
        clear hG5 hB5 hI5 hm5 hvi hP2
        go_wp2
        go_loopw [76] (fun i wr => ∃ k : Nat, k ≤ n ∧ i = .int .i64 k ∧ GrRel w B lo hi w.heap.size (.slice ra n rc) rb (rowsF (gOwnC f) n ++ [gHubC f n]) (rowsF (mixF (gReg2 n) gReg1 k) n) wr) (fun i _ => n - (intOf i).toNat)
        case atStart => exact ⟨0, Nat.zero_le _, rfl, HG5.out⟩
        case round =>
          generalize wr = w6 at *
          obtain ⟨k, hk, rfl, hG5⟩ := hrel
          by_cases hlt : k < n
          · have hd : decide ((k : Int) < (n : Int)) = true := by simp; omega
            have hki : (k : Int) < (n : Int) := by omega
            obtain ⟨iv6, ib6, hB5, hI6⟩ := hG5.init
            clear b2
            obtain ⟨ra', rc', hrv', hrx⟩ := hG5.regs.cell
            rw [rowsF_len] at hrv'
            cases hrv'
            obtain ⟨gb, rfl, hgb, hrk⟩ := hrx k (gReg1 k) (mix_get hlt)
            have hrow := hG5.regs.row k _ (mix_get hlt) (by simp [gReg0, gReg1])
            have b2 : w6.cell? ⟨B, 2, none⟩ = some (.slice (some ⟨gb, 0, none⟩) n rc) := by rw [cell_of_heap hB5]; rfl
            have b3 : w6.cell? ⟨gb, k, none⟩ = some (.slice (some ⟨rb k, 0, none⟩) 8 8) := hrk
            have b4 : w6.cell? ⟨rb k, 7, none⟩ = some (.int .i64 0) := by rw [cell_of_heap hrow]; rfl
            have b5 := free_of_heap hrow 7
            have hset := hG5.set HP2.out (k := k) (j := 7) (x := (n : Int) + 1) (mix_get hlt) (by simp [gReg1])
            rw [show (gReg1 k).set 7 ((n : Int) + 1) = gReg2 n k from rfl, mix_set hlt] at hset
            have Hset := Lib.hid hset
            clear hG5 hrx hrk hrow hset hB5 hI6
            go_wp2
            go_roundw
            case rel => exact ⟨k + 1, by omega, by go_num, Hset.out⟩
            case measure => simp [intOf]; omega
          · have hd : decide ((k : Int) < (n : Int)) = false := by simp; omega
            obtain rfl : n = k := by omega
            have HGf := Lib.hid hG5
            clear hG5 b2
            go_wp2
            go_ret
            obtain ⟨iv6, ib6, hB6, hI6⟩ := HGf.out.init
            refine ⟨rfl, iv6, ib6, hB6, ?_, hI6, HGf.out.mod⟩
            have := HGf.out.regs
            rw [mix_all] at this
            exact this
      · obtain rfl : lk = 2 := by rw [← hlkv]; unfold lkC; rw [if_neg hf4]
        have q1 : wo.cell? ⟨gh, 2, none⟩ = some (.int .i64 0) := by rw [cell_of_heap hhub]; rfl
        have q2 := free_of_heap hhub 2
        have hMs : Mod (fun x => x = gh) wo (wo.setCell ⟨gh, 2, none⟩ (.int .i64 (n : Int))) := (Mod.refl (fun x => x = gh) wo).setCell (fun _ => rfl) _
        have hrow := set_row hhub 2 (n : Int)
        rw [hubCn hf4 n] at hrow
        have Hrow := Lib.hid hrow
        have HBq := Lib.hid (hMs.heap hB (fun e => by omega))
        have HIq := Lib.hid (hI.keep hMs (fun x y1 y2 e => by omega))
        have HRq := Lib.hid (hR3.keep hMs (fun x y1 y2 e => by omega))
        have HMq := Lib.hid (hM3.trans hMs (fun x hx e => by omega))
        have Hsq := Lib.hid hMs.size
        clear hB hI hR3 hM3 hhub hrow hso hMs hlkv HG hf4
        go_wp2_with fail
        refine (cell_ok0 (lo0 := w.heap.size) (l := gHubC f n) (r := gh) (by omega) HBq.out HIq.out (by have := Hsq.out; omega) (by have := Hsq.out; have := Hso.out; omega) (by omega) (by rw [rowsF_len]; omega) (fun h => ⟨hgh, by omega, .inr hgh2⟩) (fun h => Hrow.out)).mono ?_
        rintro e w5 ⟨rfl, iv5, hB5, ⟨ib5, hI5⟩, hm5⟩
        rw [rowsF_len]
        have hvi := HIq.out.vin
        have hP2 : GrOk w B lo hi w.heap.size := ⟨hBl, hlh, hhi, Nat.le_refl _⟩
        have HP2 := Lib.hid hP2
        have hG5 : GrRel w B lo hi w.heap.size (.slice ra n rc) rb (rowsF (gOwnC f) n ++ [gHubC f n]) (rowsF (mixF (gReg2 n) gReg1 0) n) w5 := by
          refine ⟨HMq.out.trans hm5 fun x hx e => ?_, ⟨iv5, ib5, hB5, hI5⟩, ?_⟩
          · rcases e with e | e
            · exact .inl e
            · have := (hvi x e).1; omega
          · rw [mix_zero]
            refine HRq.out.keep hm5 fun x y1 y2 e => ?_
            rcases e with e | e
            · omega
            · have := (hvi x e).1; omega
        have HG5 := Lib.hid hG5
        have b2 : w5.cell? ⟨B, 2, none⟩ = some (.slice ra n rc) := by rw [cell_of_heap hB5]; rfl
        clear hG5 hB5 hI5 hm5 hvi hP2
        go_wp2
        go_loopw [76] (fun i wr => ∃ k : Nat, k ≤ n ∧ i = .int .i64 k ∧ GrRel w B lo hi w.heap.size (.slice ra n rc) rb (rowsF (gOwnC f) n ++ [gHubC f n]) (rowsF (mixF (gReg2 n) gReg1 k) n) wr) (fun i _ => n - (intOf i).toNat)
        case atStart => exact ⟨0, Nat.zero_le _, rfl, HG5.out⟩
        case round =>
          generalize wr = w6 at *
          obtain ⟨k, hk, rfl, hG5⟩ := hrel
          by_cases hlt : k < n
          · have hd : decide ((k : Int) < (n : Int)) = true := by simp; omega
            have hki : (k : Int) < (n : Int) := by omega
            obtain ⟨iv6, ib6, hB5, hI6⟩ := hG5.init
            clear b2
            obtain ⟨ra', rc', hrv', hrx⟩ := hG5.regs.cell
            rw [rowsF_len] at hrv'
            cases hrv'
            obtain ⟨gb, rfl, hgb, hrk⟩ := hrx k (gReg1 k) (mix_get hlt)
            have hrow := hG5.regs.row k _ (mix_get hlt) (by simp [gReg0, gReg1])
            have b2 : w6.cell? ⟨B, 2, none⟩ = some (.slice (some ⟨gb, 0, none⟩) n rc) := by rw [cell_of_heap hB5]; rfl
            have b3 : w6.cell? ⟨gb, k, none⟩ = some (.slice (some ⟨rb k, 0, none⟩) 8 8) := hrk
            have b4 : w6.cell? ⟨rb k, 7, none⟩ = some (.int .i64 0) := by rw [cell_of_heap hrow]; rfl
            have b5 := free_of_heap hrow 7
            have hset := hG5.set HP2.out (k := k) (j := 7) (x := (n : Int) + 1) (mix_get hlt) (by simp [gReg1])
            rw [show (gReg1 k).set 7 ((n : Int) + 1) = gReg2 n k from rfl, mix_set hlt] at hset
            have Hset := Lib.hid hset
            clear hG5 hrx hrk hrow hset hB5 hI6
            go_wp2
            go_roundw
            case rel => exact ⟨k + 1, by omega, by go_num, Hset.out⟩
            case measure => simp [intOf]; omega
          · have hd : decide ((k : Int) < (n : Int)) = false := by simp; omega
            obtain rfl : n = k := by omega
            have HGf := Lib.hid hG5
            clear hG5 b2
            go_wp2
            go_ret
            obtain ⟨iv6, ib6, hB6, hI6⟩ := HGf.out.init
            refine ⟨rfl, iv6, ib6, hB6, ?_, hI6, HGf.out.mod⟩
            have := HGf.out.regs
            rw [mix_all] at this
            exact this
end Go.Proofs.YtppihkneeolomaaGreatDoor
end
/- Build's state between its steps, in plain: any rows. -/
section
namespace Go.Proofs.YtppihkneeolomaaGreatDoor
open Go.RowKit Qs Qh Qc
/-- Behind rows set and k codes made. -/
structure BldRel (w : World) (p : Plc) (iv rv : Value) (rb ib : Nat → Nat) (cs : Nat → List Instr) (ini regs : List (List Int)) (k : Nat) (cv : Value) (vk : Nat → Value) (wr : World) : Prop where
  mod : Mod noF w wr
  size : p.S ≤ wr.heap.size
  res : wr.heap[p.T2]? = some (.cells #[.int .i64 0, .slice none 0 0, .slice none 0 0] 32 (0, 0))
  base : BaseAt wr p.B iv rv
  regs : Rws p.lo1 p.hi1 wr rv regs rb
  init : Rws p.lo2 p.hi2 wr iv ini ib
  cds : Cds p.S wr cv cs k vk
variable {w wr w1 : World} {p : Plc} {iv rv cv cv' u : Value} {rb ib : Nat → Nat} {cs : Nat → List Instr} {ini regs : List (List Int)} {kr k j : Nat} {vk : Nat → Value} {l : List Int} {x : Int}
theorem BldRel.quiet (R : BldRel w p iv rv rb ib cs ini regs k cv vk wr) (h : Mod noF wr w1) : BldRel w p iv rv rb ib cs ini regs k cv vk w1 :=
  ⟨R.mod.trans0 h, Nat.le_trans R.size h.size, h.heap R.res (fun e => e), h.heap R.base (fun e => e), R.regs.keep h (fun _ _ _ e => e), R.init.keep h (fun _ _ _ e => e), R.cds.keep h (fun _ _ _ e => e)⟩
theorem BldRel.store (R : BldRel w p iv rv rb ib cs ini regs k cv vk wr) (P : p.Ok w) (hl : regs[kr]? = some l) (hj : j < l.length) : BldRel w p iv rv rb ib cs ini (regs.set kr (l.set j x)) k cv vk (wr.setCell ⟨rb kr, j, none⟩ (.int .i64 x)) ∧ wr.heap[rb kr]? = some (.cells (l.map (Value.int .i64)).toArray 3 (0, 0)) ∧ p.lo1 ≤ rb kr := by
  obtain ⟨R1, hM⟩ := R.regs.set (x := x) (j := j) hl hj
  have hb := R.regs.bin kr l hl (by omega)
  have hP := P
  obtain ⟨p1, p2, p3, p4, p5, p6, p7⟩ := hP
  refine ⟨⟨R.mod.trans hM fun x hx e => ?_, Nat.le_trans R.size hM.size, hM.heap R.res (fun e => ?_), hM.heap R.base (fun e => ?_), R1, R.init.keep hM (fun x h1 h2 e => ?_), R.cds.keep hM (fun x h1 h2 e => ?_)⟩, R.regs.row kr l hl (by omega), hb.1⟩
  all_goals omega
theorem BldRel.push (R : BldRel w p iv rv rb ib cs ini regs k cv vk wr) (P : p.Ok w) (hc : CodeAt wr u (cs k)) (hu : ∀ g, u.ownBlock = some g → p.S ≤ g ∧ g < wr.heap.size ∧ cv.ownBlock ≠ some g)
    (hown : w1.ownsRow 0 71 1 cv' (k + 1) ((List.range k).map vk ++ [u])) (hg : wr.grownBy w1 cv.ownBlock) (hfr : ∀ g, cv'.ownBlock = some g → cv.ownBlock = some g ∨ wr.heap.size ≤ g) :
    BldRel w p iv rv rb ib cs ini regs (k + 1) cv' (fun i => if i = k then u else vk i) w1 := by
  have hM : Mod (fun x => cv.ownBlock = some x) wr w1 := (Mod.refl (fun x => cv.ownBlock = some x) wr).grown hg fun j hj _ => hj
  have hcv := R.cds.vin
  obtain ⟨p1, p2, p3, p4, p5, p6, p7⟩ := P
  refine ⟨R.mod.trans hM fun x hx e => ?_, Nat.le_trans R.size hM.size, hM.heap R.res (fun e => ?_), hM.heap R.base (fun e => ?_), R.regs.keep hM (fun x h1 h2 e => ?_), R.init.keep hM (fun x h1 h2 e => ?_), R.cds.push R.size hc hu hown hg hfr⟩
  all_goals have := hcv _ e; omega
end Go.Proofs.YtppihkneeolomaaGreatDoor
end
/- The code of package grace, flavour by flavour, plain. -/
section
namespace Go.Proofs.YtppihkneeolomaaGreatDoor
open Go.RowKit Qs Qh
variable {w0 w w1 : World} {b o : Nat} {v0 : Value} {l : List Instr} {br s : ByteArray} {fe jo co : Bool} {u : Value} {c : Nat}
def gc10 : List Instr := [⟨6, 0, 6, 0, []⟩, ⟨0, 1, 255, 0, []⟩, ⟨4, 1, 0, 1, []⟩, ⟨14, 1, 0, 0, [46, 97]⟩, ⟨0, 1, 1, 0, []⟩, ⟨2, 0, 0, 1, []⟩, ⟨7, 6, 0, 0, []⟩, ⟨16, 0, 0, 0, [46, 98]⟩, ⟨17, 0, 0, 0, [46, 97]⟩, ⟨6, 0, 7, 0, []⟩, ⟨7, 6, 0, 0, []⟩, ⟨12, 0, 0, 0, []⟩, ⟨17, 0, 0, 0, [46, 98]⟩]
def gc11 : List Instr := [⟨12, 0, 0, 0, []⟩, ⟨6, 0, 6, 0, []⟩, ⟨0, 1, 1, 0, []⟩, ⟨3, 0, 0, 1, []⟩, ⟨7, 6, 0, 0, []⟩]
def gc12 : List Instr := []
def gc13 : List Instr := []
def gc14 : List Instr := [⟨12, 0, 0, 0, []⟩, ⟨17, 0, 0, 0, [116, 46, 97]⟩, ⟨0, 0, 0, 0, []⟩, ⟨0, 1, 1, 0, []⟩, ⟨9, 7, 0, 1, []⟩, ⟨14, 0, 0, 0, [116, 46, 98]⟩, ⟨16, 0, 0, 0, [116, 46, 97]⟩, ⟨17, 0, 0, 0, [116, 46, 98]⟩, ⟨6, 0, 7, 0, []⟩, ⟨0, 1, 256, 0, []⟩, ⟨5, 0, 0, 1, []⟩, ⟨7, 7, 0, 0, []⟩, ⟨12, 0, 0, 0, []⟩, ⟨6, 2, 7, 2, []⟩, ⟨17, 0, 0, 0, [46, 120, 108]⟩, ⟨14, 2, 0, 0, [46, 120, 111]⟩, ⟨17, 0, 0, 0, [46, 120, 115]⟩, ⟨6, 0, 2, 0, []⟩, ⟨0, 1, 255, 0, []⟩, ⟨4, 1, 0, 1, []⟩, ⟨14, 1, 0, 0, [46, 120, 110]⟩, ⟨6, 1, 7, 0, []⟩, ⟨5, 1, 0, 1, []⟩, ⟨0, 0, 256, 0, []⟩, ⟨4, 1, 1, 0, []⟩, ⟨14, 1, 0, 0, [46, 120, 110]⟩, ⟨16, 0, 0, 0, [46, 120, 115]⟩, ⟨17, 0, 0, 0, [46, 120, 110]⟩, ⟨6, 2, 2, 1, []⟩, ⟨16, 0, 0, 0, [46, 120, 108]⟩, ⟨17, 0, 0, 0, [46, 120, 111]⟩, ⟨6, 0, 7, 0, []⟩, ⟨0, 1, 256, 0, []⟩, ⟨5, 0, 0, 1, []⟩, ⟨7, 7, 0, 0, []⟩, ⟨12, 0, 0, 0, []⟩, ⟨6, 2, 7, 2, []⟩, ⟨17, 0, 0, 0, [46, 121, 108]⟩, ⟨14, 2, 0, 0, [46, 121, 111]⟩, ⟨17, 0, 0, 0, [46, 121, 115]⟩, ⟨6, 0, 2, 0, []⟩, ⟨0, 1, 255, 0, []⟩, ⟨4, 1, 0, 1, []⟩, ⟨14, 1, 0, 0, [46, 121, 110]⟩, ⟨6, 1, 7, 0, []⟩, ⟨5, 1, 0, 1, []⟩, ⟨0, 0, 256, 0, []⟩, ⟨4, 1, 1, 0, []⟩, ⟨14, 1, 0, 0, [46, 121, 110]⟩, ⟨16, 0, 0, 0, [46, 121, 115]⟩, ⟨17, 0, 0, 0, [46, 121, 110]⟩, ⟨6, 2, 2, 1, []⟩, ⟨16, 0, 0, 0, [46, 121, 108]⟩, ⟨17, 0, 0, 0, [46, 121, 111]⟩, ⟨12, 0, 0, 0, []⟩, ⟨0, 0, 0, 0, []⟩, ⟨7, 7, 0, 1, []⟩, ⟨12, 0, 0, 0, []⟩]
def gc20 : List Instr := [⟨6, 0, 6, 0, []⟩, ⟨0, 1, 255, 0, []⟩, ⟨4, 1, 0, 1, []⟩, ⟨14, 1, 0, 0, [46, 97]⟩, ⟨0, 1, 1, 0, []⟩, ⟨2, 0, 0, 1, []⟩, ⟨7, 6, 0, 0, []⟩, ⟨16, 0, 0, 0, [46, 98]⟩, ⟨17, 0, 0, 0, [46, 97]⟩, ⟨6, 0, 7, 0, []⟩, ⟨7, 6, 0, 0, []⟩, ⟨17, 0, 0, 0, [46, 98]⟩]
def gc21 : List Instr := [⟨6, 0, 6, 0, []⟩, ⟨0, 1, 1, 0, []⟩, ⟨3, 0, 0, 1, []⟩, ⟨7, 6, 0, 0, []⟩]
def gc22 : List Instr := []
def gc23 : List Instr := []
def gc24 : List Instr := [⟨13, 0, 0, 0, []⟩, ⟨17, 0, 0, 0, [116, 46, 97]⟩, ⟨0, 0, 0, 0, []⟩, ⟨0, 1, 1, 0, []⟩, ⟨9, 7, 0, 1, []⟩, ⟨14, 0, 0, 0, [116, 46, 98]⟩, ⟨16, 0, 0, 0, [116, 46, 97]⟩, ⟨17, 0, 0, 0, [116, 46, 98]⟩, ⟨6, 0, 7, 0, []⟩, ⟨0, 1, 256, 0, []⟩, ⟨5, 0, 0, 1, []⟩, ⟨7, 7, 0, 0, []⟩, ⟨13, 0, 0, 0, []⟩, ⟨6, 2, 7, 2, []⟩, ⟨17, 0, 0, 0, [46, 120, 108]⟩, ⟨14, 2, 0, 0, [46, 120, 111]⟩, ⟨17, 0, 0, 0, [46, 120, 115]⟩, ⟨6, 0, 2, 0, []⟩, ⟨0, 1, 255, 0, []⟩, ⟨4, 1, 0, 1, []⟩, ⟨14, 1, 0, 0, [46, 120, 110]⟩, ⟨6, 1, 7, 0, []⟩, ⟨5, 1, 0, 1, []⟩, ⟨0, 0, 256, 0, []⟩, ⟨4, 1, 1, 0, []⟩, ⟨14, 1, 0, 0, [46, 120, 110]⟩, ⟨16, 0, 0, 0, [46, 120, 115]⟩, ⟨17, 0, 0, 0, [46, 120, 110]⟩, ⟨6, 2, 2, 1, []⟩, ⟨16, 0, 0, 0, [46, 120, 108]⟩, ⟨17, 0, 0, 0, [46, 120, 111]⟩, ⟨6, 0, 7, 0, []⟩, ⟨0, 1, 256, 0, []⟩, ⟨5, 0, 0, 1, []⟩, ⟨7, 7, 0, 0, []⟩, ⟨13, 0, 0, 0, []⟩, ⟨6, 2, 7, 2, []⟩, ⟨17, 0, 0, 0, [46, 121, 108]⟩, ⟨14, 2, 0, 0, [46, 121, 111]⟩, ⟨17, 0, 0, 0, [46, 121, 115]⟩, ⟨6, 0, 2, 0, []⟩, ⟨0, 1, 255, 0, []⟩, ⟨4, 1, 0, 1, []⟩, ⟨14, 1, 0, 0, [46, 121, 110]⟩, ⟨6, 1, 7, 0, []⟩, ⟨5, 1, 0, 1, []⟩, ⟨0, 0, 256, 0, []⟩, ⟨4, 1, 1, 0, []⟩, ⟨14, 1, 0, 0, [46, 121, 110]⟩, ⟨16, 0, 0, 0, [46, 121, 115]⟩, ⟨17, 0, 0, 0, [46, 121, 110]⟩, ⟨6, 2, 2, 1, []⟩, ⟨16, 0, 0, 0, [46, 121, 108]⟩, ⟨17, 0, 0, 0, [46, 121, 111]⟩, ⟨13, 0, 0, 0, []⟩, ⟨0, 0, 0, 0, []⟩, ⟨7, 7, 0, 1, []⟩, ⟨12, 0, 0, 0, []⟩]
def gc30 : List Instr := []
def gc31 : List Instr := []
def gc32 : List Instr := [⟨6, 0, 7, 0, []⟩, ⟨7, 6, 0, 0, []⟩, ⟨12, 0, 0, 0, []⟩]
def gc33 : List Instr := [⟨0, 0, 0, 0, []⟩, ⟨7, 6, 0, 0, []⟩, ⟨12, 0, 0, 0, []⟩]
def gc34 : List Instr := [⟨0, 0, 0, 0, []⟩, ⟨7, 6, 0, 0, []⟩, ⟨12, 0, 0, 0, []⟩, ⟨17, 0, 0, 0, [116, 46, 97]⟩, ⟨0, 0, 0, 0, []⟩, ⟨0, 1, 1, 0, []⟩, ⟨9, 7, 0, 1, []⟩, ⟨14, 0, 0, 0, [116, 46, 98]⟩, ⟨16, 0, 0, 0, [116, 46, 97]⟩, ⟨17, 0, 0, 0, [116, 46, 98]⟩, ⟨6, 0, 7, 0, []⟩, ⟨0, 1, 2, 0, []⟩, ⟨2, 0, 0, 1, []⟩, ⟨7, 7, 0, 0, []⟩, ⟨12, 0, 0, 0, []⟩, ⟨6, 2, 7, 2, []⟩, ⟨17, 0, 0, 0, [46, 120, 108]⟩, ⟨14, 2, 0, 0, [46, 120, 111]⟩, ⟨17, 0, 0, 0, [46, 120, 115]⟩, ⟨6, 0, 2, 0, []⟩, ⟨14, 0, 0, 0, [46, 120, 110]⟩, ⟨6, 1, 7, 0, []⟩, ⟨15, 0, 1, 0, [46, 120, 110]⟩, ⟨16, 0, 0, 0, [46, 120, 115]⟩, ⟨17, 0, 0, 0, [46, 120, 110]⟩, ⟨6, 2, 2, 1, []⟩, ⟨16, 0, 0, 0, [46, 120, 108]⟩, ⟨17, 0, 0, 0, [46, 120, 111]⟩, ⟨0, 0, 0, 0, []⟩, ⟨7, 7, 0, 1, []⟩, ⟨12, 0, 0, 0, []⟩, ⟨6, 0, 7, 0, []⟩, ⟨7, 6, 0, 0, []⟩, ⟨12, 0, 0, 0, []⟩]
def gc40 : List Instr := [⟨6, 0, 6, 2, []⟩, ⟨14, 0, 0, 0, [46, 106]⟩, ⟨16, 0, 0, 0, [46, 107]⟩, ⟨17, 0, 0, 0, [46, 106]⟩, ⟨17, 0, 0, 0, [116, 46, 97]⟩, ⟨0, 0, 0, 0, []⟩, ⟨0, 1, 1, 0, []⟩, ⟨9, 7, 0, 1, []⟩, ⟨14, 0, 0, 0, [116, 46, 98]⟩, ⟨16, 0, 0, 0, [116, 46, 97]⟩, ⟨17, 0, 0, 0, [116, 46, 98]⟩, ⟨6, 0, 7, 2, []⟩, ⟨7, 6, 0, 1, []⟩, ⟨7, 7, 6, 2, []⟩, ⟨0, 0, 1, 0, []⟩, ⟨7, 6, 0, 2, []⟩, ⟨0, 0, 0, 0, []⟩, ⟨7, 7, 0, 1, []⟩, ⟨12, 0, 0, 0, []⟩, ⟨17, 0, 0, 0, [46, 107]⟩, ⟨6, 0, 6, 0, []⟩, ⟨0, 1, 255, 0, []⟩, ⟨4, 1, 0, 1, []⟩, ⟨14, 1, 0, 0, [46, 97]⟩, ⟨0, 1, 1, 0, []⟩, ⟨2, 0, 0, 1, []⟩, ⟨7, 6, 0, 0, []⟩, ⟨16, 0, 0, 0, [46, 98]⟩, ⟨17, 0, 0, 0, [46, 97]⟩, ⟨6, 0, 7, 0, []⟩, ⟨7, 6, 0, 0, []⟩, ⟨12, 0, 0, 0, []⟩, ⟨17, 0, 0, 0, [46, 98]⟩]
def gc41 : List Instr := [⟨12, 0, 0, 0, []⟩, ⟨6, 0, 6, 0, []⟩, ⟨0, 1, 1, 0, []⟩, ⟨3, 0, 0, 1, []⟩, ⟨7, 6, 0, 0, []⟩]
def gc42 : List Instr := []
def gc43 : List Instr := []
def gc44 : List Instr := [⟨12, 0, 0, 0, []⟩, ⟨17, 0, 0, 0, [116, 46, 97]⟩, ⟨0, 0, 0, 0, []⟩, ⟨0, 1, 1, 0, []⟩, ⟨9, 7, 0, 1, []⟩, ⟨14, 0, 0, 0, [116, 46, 98]⟩, ⟨16, 0, 0, 0, [116, 46, 97]⟩, ⟨17, 0, 0, 0, [116, 46, 98]⟩, ⟨6, 0, 7, 0, []⟩, ⟨0, 1, 256, 0, []⟩, ⟨5, 0, 0, 1, []⟩, ⟨7, 7, 0, 0, []⟩, ⟨12, 0, 0, 0, []⟩, ⟨6, 2, 7, 2, []⟩, ⟨17, 0, 0, 0, [46, 120, 108]⟩, ⟨14, 2, 0, 0, [46, 120, 111]⟩, ⟨17, 0, 0, 0, [46, 120, 115]⟩, ⟨6, 0, 2, 0, []⟩, ⟨0, 1, 255, 0, []⟩, ⟨4, 1, 0, 1, []⟩, ⟨14, 1, 0, 0, [46, 120, 110]⟩, ⟨6, 1, 7, 0, []⟩, ⟨5, 1, 0, 1, []⟩, ⟨0, 0, 256, 0, []⟩, ⟨4, 1, 1, 0, []⟩, ⟨14, 1, 0, 0, [46, 120, 110]⟩, ⟨16, 0, 0, 0, [46, 120, 115]⟩, ⟨17, 0, 0, 0, [46, 120, 110]⟩, ⟨6, 2, 2, 1, []⟩, ⟨16, 0, 0, 0, [46, 120, 108]⟩, ⟨17, 0, 0, 0, [46, 120, 111]⟩, ⟨6, 0, 7, 0, []⟩, ⟨0, 1, 256, 0, []⟩, ⟨5, 0, 0, 1, []⟩, ⟨7, 7, 0, 0, []⟩, ⟨12, 0, 0, 0, []⟩, ⟨6, 2, 7, 2, []⟩, ⟨17, 0, 0, 0, [46, 121, 108]⟩, ⟨14, 2, 0, 0, [46, 121, 111]⟩, ⟨17, 0, 0, 0, [46, 121, 115]⟩, ⟨6, 0, 2, 0, []⟩, ⟨0, 1, 255, 0, []⟩, ⟨4, 1, 0, 1, []⟩, ⟨14, 1, 0, 0, [46, 121, 110]⟩, ⟨6, 1, 7, 0, []⟩, ⟨5, 1, 0, 1, []⟩, ⟨0, 0, 256, 0, []⟩, ⟨4, 1, 1, 0, []⟩, ⟨14, 1, 0, 0, [46, 121, 110]⟩, ⟨16, 0, 0, 0, [46, 121, 115]⟩, ⟨17, 0, 0, 0, [46, 121, 110]⟩, ⟨6, 2, 2, 1, []⟩, ⟨16, 0, 0, 0, [46, 121, 108]⟩, ⟨17, 0, 0, 0, [46, 121, 111]⟩, ⟨12, 0, 0, 0, []⟩, ⟨0, 0, 0, 0, []⟩, ⟨7, 7, 0, 1, []⟩, ⟨12, 0, 0, 0, []⟩]
def gcode (f k : Nat) : List Instr := match f, k with
  | 1, 0 => gc10
  | 1, 1 => gc11
  | 1, 2 => gc12
  | 1, 3 => gc13
  | 1, 4 => gc14
  | 2, 0 => gc20
  | 2, 1 => gc21
  | 2, 2 => gc22
  | 2, 3 => gc23
  | 2, 4 => gc24
  | 3, 0 => gc30
  | 3, 1 => gc31
  | 3, 2 => gc32
  | 3, 3 => gc33
  | 3, 4 => gc34
  | 4, 0 => gc40
  | 4, 1 => gc41
  | 4, 2 => gc42
  | 4, 3 => gc43
  | 4, 4 => gc44
  | _, _ => []
theorem genter1_eq (s : ByteArray) : [] ++ ([⟨6, 0, 6, 0, []⟩, ⟨0, 1, 255, 0, []⟩, ⟨4, 1, 0, 1, []⟩, ⟨14, 1, 0, 0, s.data.toList ++ [46, 97]⟩, ⟨0, 1, 1, 0, []⟩, ⟨2, 0, 0, 1, []⟩, ⟨7, 6, 0, 0, []⟩, ⟨16, 0, 0, 0, s.data.toList ++ [46, 98]⟩, ⟨17, 0, 0, 0, s.data.toList ++ [46, 97]⟩, ⟨6, 0, 7, 0, []⟩, ⟨7, 6, 0, 0, []⟩, ⟨12, 0, 0, 0, []⟩, ⟨17, 0, 0, 0, s.data.toList ++ [46, 98]⟩]) = preC s.data.toList gc10 := by
  simp [preC, preI, gc10, takeCode, giveCode, joinCode, awayCode, eachCode, turnGo, waitGo, turnCode, List.append_assoc]
theorem gleave1_eq (s : ByteArray) : [] ++ ([⟨12, 0, 0, 0, []⟩, ⟨6, 0, 6, 0, []⟩, ⟨0, 1, 1, 0, []⟩, ⟨3, 0, 0, 1, []⟩, ⟨7, 6, 0, 0, []⟩]) = preC s.data.toList gc11 := by
  simp [preC, preI, gc11, takeCode, giveCode, joinCode, awayCode, eachCode, turnGo, waitGo, turnCode, List.append_assoc]
theorem gwait1_eq (s : ByteArray) : [] ++ ([⟨12, 0, 0, 0, []⟩] ++ (takeCode (s.data.toList ++ [116]) 7 1 0 ++ (turnCode 12 (s ++ ⟨#[46, 120]⟩) ++ (turnCode 12 (s ++ ⟨#[46, 121]⟩) ++ ([⟨12, 0, 0, 0, []⟩] ++ (giveCode 7 1 0)))))) = preC s.data.toList gc14 := by
  simp [preC, preI, gc14, takeCode, giveCode, joinCode, awayCode, eachCode, turnGo, waitGo, turnCode, List.append_assoc]
theorem genter2_eq (s : ByteArray) : [] ++ ([⟨6, 0, 6, 0, []⟩, ⟨0, 1, 255, 0, []⟩, ⟨4, 1, 0, 1, []⟩, ⟨14, 1, 0, 0, s.data.toList ++ [46, 97]⟩, ⟨0, 1, 1, 0, []⟩, ⟨2, 0, 0, 1, []⟩, ⟨7, 6, 0, 0, []⟩, ⟨16, 0, 0, 0, s.data.toList ++ [46, 98]⟩, ⟨17, 0, 0, 0, s.data.toList ++ [46, 97]⟩, ⟨6, 0, 7, 0, []⟩, ⟨7, 6, 0, 0, []⟩, ⟨17, 0, 0, 0, s.data.toList ++ [46, 98]⟩]) = preC s.data.toList gc20 := by
  simp [preC, preI, gc20, takeCode, giveCode, joinCode, awayCode, eachCode, turnGo, waitGo, turnCode, List.append_assoc]
theorem gleave2_eq (s : ByteArray) : [] ++ ([⟨6, 0, 6, 0, []⟩, ⟨0, 1, 1, 0, []⟩, ⟨3, 0, 0, 1, []⟩, ⟨7, 6, 0, 0, []⟩]) = preC s.data.toList gc21 := by
  simp [preC, preI, gc21, takeCode, giveCode, joinCode, awayCode, eachCode, turnGo, waitGo, turnCode, List.append_assoc]
theorem gwait2_eq (s : ByteArray) : [] ++ ([⟨13, 0, 0, 0, []⟩] ++ (takeCode (s.data.toList ++ [116]) 7 1 0 ++ (turnCode 13 (s ++ ⟨#[46, 120]⟩) ++ (turnCode 13 (s ++ ⟨#[46, 121]⟩) ++ ([⟨13, 0, 0, 0, []⟩] ++ (giveCode 7 1 0)))))) = preC s.data.toList gc24 := by
  simp [preC, preI, gc24, takeCode, giveCode, joinCode, awayCode, eachCode, turnGo, waitGo, turnCode, List.append_assoc]
theorem grest3_eq (s : ByteArray) : [] ++ ([⟨6, 0, 7, 0, []⟩, ⟨7, 6, 0, 0, []⟩, ⟨12, 0, 0, 0, []⟩]) = preC s.data.toList gc32 := by
  simp [preC, preI, gc32, takeCode, giveCode, joinCode, awayCode, eachCode, turnGo, waitGo, turnCode, List.append_assoc]
theorem ggone3_eq (s : ByteArray) : [] ++ (awayCode) = preC s.data.toList gc33 := by
  simp [preC, preI, gc33, takeCode, giveCode, joinCode, awayCode, eachCode, turnGo, waitGo, turnCode, List.append_assoc]
theorem gwait3_eq (s : ByteArray) : [] ++ (awayCode ++ (takeCode (s.data.toList ++ [116]) 7 1 0 ++ ([⟨6, 0, 7, 0, []⟩, ⟨0, 1, 2, 0, []⟩, ⟨2, 0, 0, 1, []⟩, ⟨7, 7, 0, 0, []⟩, ⟨12, 0, 0, 0, []⟩] ++ (eachCode (waitGo s) (s ++ ⟨#[46, 120]⟩) ++ (giveCode 7 1 0 ++ ([⟨6, 0, 7, 0, []⟩, ⟨7, 6, 0, 0, []⟩, ⟨12, 0, 0, 0, []⟩])))))) = preC s.data.toList gc34 := by
  simp [preC, preI, gc34, takeCode, giveCode, joinCode, awayCode, eachCode, turnGo, waitGo, turnCode, List.append_assoc]
theorem genter4_eq (s : ByteArray) : [] ++ (joinCode s ++ ([⟨6, 0, 6, 0, []⟩, ⟨0, 1, 255, 0, []⟩, ⟨4, 1, 0, 1, []⟩, ⟨14, 1, 0, 0, s.data.toList ++ [46, 97]⟩, ⟨0, 1, 1, 0, []⟩, ⟨2, 0, 0, 1, []⟩, ⟨7, 6, 0, 0, []⟩, ⟨16, 0, 0, 0, s.data.toList ++ [46, 98]⟩, ⟨17, 0, 0, 0, s.data.toList ++ [46, 97]⟩, ⟨6, 0, 7, 0, []⟩, ⟨7, 6, 0, 0, []⟩, ⟨12, 0, 0, 0, []⟩, ⟨17, 0, 0, 0, s.data.toList ++ [46, 98]⟩])) = preC s.data.toList gc40 := by
  simp [preC, preI, gc40, takeCode, giveCode, joinCode, awayCode, eachCode, turnGo, waitGo, turnCode, List.append_assoc]
theorem gleave4_eq (s : ByteArray) : [] ++ ([⟨12, 0, 0, 0, []⟩, ⟨6, 0, 6, 0, []⟩, ⟨0, 1, 1, 0, []⟩, ⟨3, 0, 0, 1, []⟩, ⟨7, 6, 0, 0, []⟩]) = preC s.data.toList gc41 := by
  simp [preC, preI, gc41, takeCode, giveCode, joinCode, awayCode, eachCode, turnGo, waitGo, turnCode, List.append_assoc]
theorem gwait4_eq (s : ByteArray) : [] ++ ([⟨12, 0, 0, 0, []⟩] ++ (takeCode (s.data.toList ++ [116]) 7 1 0 ++ (turnCode 12 (s ++ ⟨#[46, 120]⟩) ++ (turnCode 12 (s ++ ⟨#[46, 121]⟩) ++ ([⟨12, 0, 0, 0, []⟩] ++ (giveCode 7 1 0)))))) = preC s.data.toList gc44 := by
  simp [preC, preI, gc44, takeCode, giveCode, joinCode, awayCode, eachCode, turnGo, waitGo, turnCode, List.append_assoc]
end Go.Proofs.YtppihkneeolomaaGreatDoor
end
/- package grace, flavour 1: its code, made. -/
section
namespace Go.Proofs.YtppihkneeolomaaGreatDoor
open Go.RowKit Qs Qh
variable {w0 w w1 : World} {b o : Nat} {v0 : Value} {l : List Instr} {br s : ByteArray} {fe jo co : Bool} {u : Value} {c : Nat}
set_option maxRecDepth 4000 in
set_option maxHeartbeats 8000000 in
theorem genter1_ok (s : ByteArray) (w : World) (hn : nameB s.data.toList = true) (hs : s.size ≤ 4) :
    Calls Tryz.prog 75 #[.int .i64 1, .string s] w fun e w' => ∃ v, e = .returned (.tuple #[v, .nilIface]) ∧ Made (preC s.data.toList gc10) w v w' := by
  have Hn := Lib.hid hn
  clear hn
  go_enter Tryz.func75, Tryz.ntmps75
  go_wp2_with fail
  refine (begin1_ok s w Hn.out hs).mono ?_
  rintro e x0 ⟨b, rfl, hm, hb, E, M⟩
  have HC := Lib.hid (Chain.start E)
  have HM := Lib.hid M
  have Hm := Lib.hid hm
  clear hm E M
  have h0 := (HC.out.mk HM.out).c0
  have h1 := (HC.out.mk HM.out).c1
  have h2 := (HC.out.mk HM.out).c2
  have h3 := (HC.out.mk HM.out).c3
  go_wp2_with fail
  refine (op3_chain (HC.out.quiet ((Mod.refl _ _).alloc _)) (by first | omega | simp) 6 _ rfl x0.heap.size 0 6 0 3 (by simp) (by simp) (by simp) (by simp)).mono ?_
  clear h0 h1 h2 h3
  rintro e x1 ⟨rfl, C⟩
  have HC1 := Lib.hid C
  clear C
  have h0 := (HC1.out.mk HM.out).c0
  have h1 := (HC1.out.mk HM.out).c1
  have h2 := (HC1.out.mk HM.out).c2
  have h3 := (HC1.out.mk HM.out).c3
  go_wp2_with fail
  refine (op2_chain (HC1.out.quiet ((Mod.refl _ _).alloc _)) (by simp [takeCode, giveCode, joinCode, awayCode, eachCode, turnGo, waitGo, turnCode] <;> omega) 0 _ rfl x1.heap.size 1 255 2 (by simp) (by simp) (by simp)).mono ?_
  clear h0 h1 h2 h3
  rintro e x2 ⟨rfl, C⟩
  have HC2 := Lib.hid C
  clear C
  have h0 := (HC2.out.mk HM.out).c0
  have h1 := (HC2.out.mk HM.out).c1
  have h2 := (HC2.out.mk HM.out).c2
  have h3 := (HC2.out.mk HM.out).c3
  go_wp2_with fail
  refine (op3_chain (HC2.out.quiet ((Mod.refl _ _).alloc _)) (by simp [takeCode, giveCode, joinCode, awayCode, eachCode, turnGo, waitGo, turnCode] <;> omega) 4 _ rfl x2.heap.size 1 0 1 3 (by simp) (by simp) (by simp) (by simp)).mono ?_
  clear h0 h1 h2 h3
  rintro e x3 ⟨rfl, C⟩
  have HC3 := Lib.hid C
  clear C
  have h0 := (HC3.out.mk HM.out).c0
  have h1 := (HC3.out.mk HM.out).c1
  have h2 := (HC3.out.mk HM.out).c2
  have h3 := (HC3.out.mk HM.out).c3
  go_wp2_with fail
  refine (to1_chain (HC3.out.quiet ((Mod.refl _ _).alloc _)) (by simp [takeCode, giveCode, joinCode, awayCode, eachCode, turnGo, waitGo, turnCode] <;> omega) 14 _ rfl (s.data.toList ++ [46, 97]) _ (bytes_cat s _) x3.heap.size 1 1 (by simp) (by simp)).mono ?_
  clear h0 h1 h2 h3
  rintro e x4 ⟨rfl, C⟩
  have HC4 := Lib.hid C
  clear C
  have h0 := (HC4.out.mk HM.out).c0
  have h1 := (HC4.out.mk HM.out).c1
  have h2 := (HC4.out.mk HM.out).c2
  have h3 := (HC4.out.mk HM.out).c3
  go_wp2_with fail
  refine (op2_chain (HC4.out.quiet ((Mod.refl _ _).alloc _)) (by simp [takeCode, giveCode, joinCode, awayCode, eachCode, turnGo, waitGo, turnCode] <;> omega) 0 _ rfl x4.heap.size 1 1 2 (by simp) (by simp) (by simp)).mono ?_
  clear h0 h1 h2 h3
  rintro e x5 ⟨rfl, C⟩
  have HC5 := Lib.hid C
  clear C
  have h0 := (HC5.out.mk HM.out).c0
  have h1 := (HC5.out.mk HM.out).c1
  have h2 := (HC5.out.mk HM.out).c2
  have h3 := (HC5.out.mk HM.out).c3
  go_wp2_with fail
  refine (op3_chain (HC5.out.quiet ((Mod.refl _ _).alloc _)) (by simp [takeCode, giveCode, joinCode, awayCode, eachCode, turnGo, waitGo, turnCode] <;> omega) 2 _ rfl x5.heap.size 0 0 1 3 (by simp) (by simp) (by simp) (by simp)).mono ?_
  clear h0 h1 h2 h3
  rintro e x6 ⟨rfl, C⟩
  have HC6 := Lib.hid C
  clear C
  have h0 := (HC6.out.mk HM.out).c0
  have h1 := (HC6.out.mk HM.out).c1
  have h2 := (HC6.out.mk HM.out).c2
  have h3 := (HC6.out.mk HM.out).c3
  go_wp2_with fail
  refine (op3_chain (HC6.out.quiet ((Mod.refl _ _).alloc _)) (by simp [takeCode, giveCode, joinCode, awayCode, eachCode, turnGo, waitGo, turnCode] <;> omega) 7 _ rfl x6.heap.size 6 0 0 3 (by simp) (by simp) (by simp) (by simp)).mono ?_
  clear h0 h1 h2 h3
  rintro e x7 ⟨rfl, C⟩
  have HC7 := Lib.hid C
  clear C
  have h0 := (HC7.out.mk HM.out).c0
  have h1 := (HC7.out.mk HM.out).c1
  have h2 := (HC7.out.mk HM.out).c2
  have h3 := (HC7.out.mk HM.out).c3
  go_wp2_with fail
  refine (to0_chain HC7.out (by simp [takeCode, giveCode, joinCode, awayCode, eachCode, turnGo, waitGo, turnCode] <;> omega) 16 _ rfl (s.data.toList ++ [46, 98]) _ (bytes_cat s _)).mono ?_
  clear h0 h1 h2 h3
  rintro e x8 ⟨rfl, C⟩
  have HC8 := Lib.hid C
  clear C
  have h0 := (HC8.out.mk HM.out).c0
  have h1 := (HC8.out.mk HM.out).c1
  have h2 := (HC8.out.mk HM.out).c2
  have h3 := (HC8.out.mk HM.out).c3
  go_wp2_with fail
  refine (label_chain HC8.out (by simp [takeCode, giveCode, joinCode, awayCode, eachCode, turnGo, waitGo, turnCode] <;> omega) (s.data.toList ++ [46, 97]) _ (bytes_cat s _)).mono ?_
  clear h0 h1 h2 h3
  rintro e x9 ⟨rfl, C⟩
  have HC9 := Lib.hid C
  clear C
  have h0 := (HC9.out.mk HM.out).c0
  have h1 := (HC9.out.mk HM.out).c1
  have h2 := (HC9.out.mk HM.out).c2
  have h3 := (HC9.out.mk HM.out).c3
  go_wp2_with fail
  refine (op3_chain (HC9.out.quiet ((Mod.refl _ _).alloc _)) (by simp [takeCode, giveCode, joinCode, awayCode, eachCode, turnGo, waitGo, turnCode] <;> omega) 6 _ rfl x9.heap.size 0 7 0 3 (by simp) (by simp) (by simp) (by simp)).mono ?_
  clear h0 h1 h2 h3
  rintro e x10 ⟨rfl, C⟩
  have HC10 := Lib.hid C
  clear C
  have h0 := (HC10.out.mk HM.out).c0
  have h1 := (HC10.out.mk HM.out).c1
  have h2 := (HC10.out.mk HM.out).c2
  have h3 := (HC10.out.mk HM.out).c3
  go_wp2_with fail
  refine (op3_chain (HC10.out.quiet ((Mod.refl _ _).alloc _)) (by simp [takeCode, giveCode, joinCode, awayCode, eachCode, turnGo, waitGo, turnCode] <;> omega) 7 _ rfl x10.heap.size 6 0 0 3 (by simp) (by simp) (by simp) (by simp)).mono ?_
  clear h0 h1 h2 h3
  rintro e x11 ⟨rfl, C⟩
  have HC11 := Lib.hid C
  clear C
  have h0 := (HC11.out.mk HM.out).c0
  have h1 := (HC11.out.mk HM.out).c1
  have h2 := (HC11.out.mk HM.out).c2
  have h3 := (HC11.out.mk HM.out).c3
  go_wp2_with fail
  refine (op0_chain HC11.out (by simp [takeCode, giveCode, joinCode, awayCode, eachCode, turnGo, waitGo, turnCode] <;> omega) 12 _ rfl).mono ?_
  clear h0 h1 h2 h3
  rintro e x12 ⟨rfl, C⟩
  have HC12 := Lib.hid C
  clear C
  have h0 := (HC12.out.mk HM.out).c0
  have h1 := (HC12.out.mk HM.out).c1
  have h2 := (HC12.out.mk HM.out).c2
  have h3 := (HC12.out.mk HM.out).c3
  go_wp2_with fail
  refine (label_chain HC12.out (by simp [takeCode, giveCode, joinCode, awayCode, eachCode, turnGo, waitGo, turnCode] <;> omega) (s.data.toList ++ [46, 98]) _ (bytes_cat s _)).mono ?_
  clear h0 h1 h2 h3
  rintro e x13 ⟨rfl, C⟩
  have HC13 := Lib.hid C
  clear C
  obtain ⟨v, ec, hv⟩ := HC13.out.made (w := w) (by simp [Value.ownBlock]) Hm.out hb
  have Hv := Lib.hid hv
  clear hv
  go_wp2
  go_ret2
  exact ⟨v, rfl, by rw [← genter1_eq]; simpa [List.append_assoc] using Hv.out⟩
set_option maxRecDepth 4000 in
set_option maxHeartbeats 8000000 in
theorem gleave1_ok (s : ByteArray) (w : World) (hn : nameB s.data.toList = true) (hs : s.size ≤ 4) :
    Calls Tryz.prog 76 #[.int .i64 1, .string s] w fun e w' => ∃ v, e = .returned (.tuple #[v, .nilIface]) ∧ Made (preC s.data.toList gc11) w v w' := by
  have Hn := Lib.hid hn
  clear hn
  go_enter Tryz.func76, Tryz.ntmps76
  go_wp2_with fail
  refine (begin1_ok s w Hn.out hs).mono ?_
  rintro e x0 ⟨b, rfl, hm, hb, E, M⟩
  have HC := Lib.hid (Chain.start E)
  have HM := Lib.hid M
  have Hm := Lib.hid hm
  clear hm E M
  have h0 := (HC.out.mk HM.out).c0
  have h1 := (HC.out.mk HM.out).c1
  have h2 := (HC.out.mk HM.out).c2
  have h3 := (HC.out.mk HM.out).c3
  go_wp2_with fail
  refine (op0_chain HC.out (by first | omega | simp) 12 _ rfl).mono ?_
  clear h0 h1 h2 h3
  rintro e x1 ⟨rfl, C⟩
  have HC1 := Lib.hid C
  clear C
  have h0 := (HC1.out.mk HM.out).c0
  have h1 := (HC1.out.mk HM.out).c1
  have h2 := (HC1.out.mk HM.out).c2
  have h3 := (HC1.out.mk HM.out).c3
  go_wp2_with fail
  refine (op3_chain (HC1.out.quiet ((Mod.refl _ _).alloc _)) (by simp [takeCode, giveCode, joinCode, awayCode, eachCode, turnGo, waitGo, turnCode] <;> omega) 6 _ rfl x1.heap.size 0 6 0 3 (by simp) (by simp) (by simp) (by simp)).mono ?_
  clear h0 h1 h2 h3
  rintro e x2 ⟨rfl, C⟩
  have HC2 := Lib.hid C
  clear C
  have h0 := (HC2.out.mk HM.out).c0
  have h1 := (HC2.out.mk HM.out).c1
  have h2 := (HC2.out.mk HM.out).c2
  have h3 := (HC2.out.mk HM.out).c3
  go_wp2_with fail
  refine (op2_chain (HC2.out.quiet ((Mod.refl _ _).alloc _)) (by simp [takeCode, giveCode, joinCode, awayCode, eachCode, turnGo, waitGo, turnCode] <;> omega) 0 _ rfl x2.heap.size 1 1 2 (by simp) (by simp) (by simp)).mono ?_
  clear h0 h1 h2 h3
  rintro e x3 ⟨rfl, C⟩
  have HC3 := Lib.hid C
  clear C
  have h0 := (HC3.out.mk HM.out).c0
  have h1 := (HC3.out.mk HM.out).c1
  have h2 := (HC3.out.mk HM.out).c2
  have h3 := (HC3.out.mk HM.out).c3
  go_wp2_with fail
  refine (op3_chain (HC3.out.quiet ((Mod.refl _ _).alloc _)) (by simp [takeCode, giveCode, joinCode, awayCode, eachCode, turnGo, waitGo, turnCode] <;> omega) 3 _ rfl x3.heap.size 0 0 1 3 (by simp) (by simp) (by simp) (by simp)).mono ?_
  clear h0 h1 h2 h3
  rintro e x4 ⟨rfl, C⟩
  have HC4 := Lib.hid C
  clear C
  have h0 := (HC4.out.mk HM.out).c0
  have h1 := (HC4.out.mk HM.out).c1
  have h2 := (HC4.out.mk HM.out).c2
  have h3 := (HC4.out.mk HM.out).c3
  go_wp2_with fail
  refine (op3_chain (HC4.out.quiet ((Mod.refl _ _).alloc _)) (by simp [takeCode, giveCode, joinCode, awayCode, eachCode, turnGo, waitGo, turnCode] <;> omega) 7 _ rfl x4.heap.size 6 0 0 3 (by simp) (by simp) (by simp) (by simp)).mono ?_
  clear h0 h1 h2 h3
  rintro e x5 ⟨rfl, C⟩
  have HC5 := Lib.hid C
  clear C
  obtain ⟨v, ec, hv⟩ := HC5.out.made (w := w) (by simp [Value.ownBlock]) Hm.out hb
  have Hv := Lib.hid hv
  clear hv
  go_wp2
  go_ret2
  exact ⟨v, rfl, by rw [← gleave1_eq]; simpa [List.append_assoc] using Hv.out⟩
set_option maxRecDepth 4000 in
set_option maxHeartbeats 8000000 in
theorem grest1_ok (s : ByteArray) (w : World) (hn : nameB s.data.toList = true) (hs : s.size ≤ 4) :
    Calls Tryz.prog 85 #[.int .i64 1, .string s] w fun e w' => ∃ v, e = .returned (.tuple #[v, .nilIface]) ∧ Made (preC s.data.toList gc12) w v w' := by
  have Hn := Lib.hid hn
  clear hn
  go_enter Tryz.func85, Tryz.ntmps85
  go_wp2_with fail
  refine (begin1_ok s w Hn.out hs).mono ?_
  rintro e x0 ⟨b, rfl, hm, hb, E, M⟩
  have h3 := M.c3
  have Hm := Lib.hid hm
  clear hm hb E M
  go_wp2
  go_ret2
  exact ⟨_, rfl, InsRow.nil _ _, Hm.out.toBelow, by simp [Value.ownBlock]⟩
set_option maxRecDepth 4000 in
set_option maxHeartbeats 8000000 in
theorem ggone1_ok (s : ByteArray) (w : World) (hn : nameB s.data.toList = true) (hs : s.size ≤ 4) :
    Calls Tryz.prog 48 #[.int .i64 1, .string s] w fun e w' => ∃ v, e = .returned (.tuple #[v, .nilIface]) ∧ Made (preC s.data.toList gc13) w v w' := by
  have Hn := Lib.hid hn
  clear hn
  go_enter Tryz.func48, Tryz.ntmps48
  go_wp2_with fail
  refine (begin1_ok s w Hn.out hs).mono ?_
  rintro e x0 ⟨b, rfl, hm, hb, E, M⟩
  have h3 := M.c3
  have Hm := Lib.hid hm
  clear hm hb E M
  go_wp2
  go_ret2
  exact ⟨_, rfl, InsRow.nil _ _, Hm.out.toBelow, by simp [Value.ownBlock]⟩
set_option maxRecDepth 4000 in
set_option maxHeartbeats 8000000 in
theorem gwait1_ok (s : ByteArray) (w : World) (hn : nameB s.data.toList = true) (hs : s.size ≤ 4) :
    Calls Tryz.prog 86 #[.int .i64 1, .string s] w fun e w' => ∃ v, e = .returned (.tuple #[v, .nilIface]) ∧ Made (preC s.data.toList gc14) w v w' := by
  have Hn := Lib.hid hn
  clear hn
  go_enter Tryz.func86, Tryz.ntmps86
  go_wp2_with fail
  refine (begin1_ok s _ Hn.out hs).mono ?_
  rintro e w1 ⟨b, rfl, hm, hb0, E, M⟩
  have hsw := hm.size
  have hlb := E.lt
  have hb1 : w.heap.size < b := by simp at hb0; omega
  have hp0 : w1.cell? ⟨w.heap.size, 0, none⟩ = some (.string s) := hm.cell (by simp) (fun e => e)
  have hq : Mod noF w1 (w1.alloc (.cells #[.pointer (some ⟨b, 0, none⟩)] 135)) := (Mod.refl _ _).alloc _
  have E1 := E.quiet hq
  have HC := Lib.hid (Chain.start E1)
  have HM := Lib.hid (M.quiet hq)
  have Hm := Lib.hid ((((Mod.refl noF w).alloc _).trans0 hm).trans0 hq)
  have Hv := Lib.hid E1.cell
  have hcp : w.heap.size < w1.heap.size := by simp at hsw; omega
  have hrow : ∀ (c : Nat) v, (w1.alloc (.cells #[.pointer (some ⟨b, 0, none⟩)] 135)).cell? ⟨b, 4, none⟩ = some v → v.ownBlock ≠ some c := fun c v h e => by
    rw [E1.cell] at h; cases h; cases e
  have HKm := Lib.hid (⟨by simp, by simp, by omega, hrow _⟩ : Cap (w1.alloc (.cells #[.pointer (some ⟨b, 0, none⟩)] 135)) b w1.heap.size (.pointer (some ⟨b, 0, none⟩)))
  have HKp := Lib.hid (⟨hq.cell hp0 (fun e => e), by simp; omega, by omega, hrow _⟩ : Cap (w1.alloc (.cells #[.pointer (some ⟨b, 0, none⟩)] 135)) b w.heap.size (.string s))
  have hb : w.heap.size ≤ b := by omega
  clear hm E M E1 hq hp0 hrow hsw hb0 hb1
  have h0 := (HC.out.mk HM.out).c0
  have h1 := (HC.out.mk HM.out).c1
  have h2 := (HC.out.mk HM.out).c2
  have h3 := (HC.out.mk HM.out).c3
  have hm := (HKm.out.next Hv.out HC.out).cell
  have hp := (HKp.out.next Hv.out HC.out).cell
  go_wp2
  clear h0 h1 h2 h3 hm hp
  go_wp2
  refine wp_region_held_drew (S := fun W => W.cell? ⟨w1.heap.size, 0, none⟩ = some (.pointer (some ⟨b, 0, none⟩)) ∧ W.cell? ⟨b, 0, none⟩ = some (.string (opStr 12))) (by kernel_rfl) ⟨(Mod.refl noF _).drew.cell (HKm.out.next Hv.out HC.out).cell (fun e => e), (Mod.refl noF _).drew.cell (HC.out.mk HM.out).c0 (fun e => e)⟩ (fun hHeld => ?_)
  refine wpAnyH_take (i := 0) (oi := ?o0x0) (v := ?v0x0) ?q0x0 (by kernel_rfl) ?f0x0 ?g0x0 ?p0x0 ?u0x0 (by assumption) ?r0x0
  case q0x0 => (rw [List.getElem?_toArray]; rfl)
  case f0x0 => kernel_rfl
  case g0x0 => kernel_rfl
  case p0x0 => exact (fun _ _ _ h => h)
  case u0x0 => (refine Or.inl ⟨by rfl, ?_⟩; intro w hSw; (try dsimp only at hSw); go_simp; (try rw [if_neg (by omega)]); try with_reducible rfl)
  try simp only [Act.put, List.setIfInBounds_toArray, List.set_cons_zero, List.set_cons_succ]
  refine wpAnyH_take (i := 1) (oi := ?o0x1) (v := ?v0x1) ?q0x1 (by kernel_rfl) ?f0x1 ?g0x1 ?p0x1 ?u0x1 (by assumption) ?r0x1
  case q0x1 => (rw [List.getElem?_toArray]; rfl)
  case f0x1 => kernel_rfl
  case g0x1 => kernel_rfl
  case p0x1 => exact (fun _ _ _ h => h)
  case u0x1 => (refine Or.inl ⟨by rfl, ?_⟩; intro w hSw; (try dsimp only at hSw); go_simp; (try rw [if_neg (by omega)]); try with_reducible rfl)
  try simp only [Act.put, List.setIfInBounds_toArray, List.set_cons_zero, List.set_cons_succ]
  refine wpAnyH_take (i := 2) (oi := ?o0x2) (v := ?v0x2) ?q0x2 (by kernel_rfl) ?f0x2 ?g0x2 ?p0x2 ?u0x2 (by assumption) ?r0x2
  case q0x2 => (rw [List.getElem?_toArray]; rfl)
  case f0x2 => kernel_rfl
  case g0x2 => kernel_rfl
  case p0x2 => exact (fun _ _ _ h => h)
  case u0x2 => (refine Or.inl ⟨by rfl, ?_⟩; intro w hSw; (try dsimp only at hSw); go_simp; (try rw [if_neg (by omega)]); try with_reducible rfl)
  try simp only [Act.put, List.setIfInBounds_toArray, List.set_cons_zero, List.set_cons_succ]
  refine wpAnyH_take (i := 3) (oi := ?o0x3) (v := ?v0x3) ?q0x3 (by kernel_rfl) ?f0x3 ?g0x3 ?p0x3 ?u0x3 (by assumption) ?r0x3
  case q0x3 => (rw [List.getElem?_toArray]; rfl)
  case f0x3 => kernel_rfl
  case g0x3 => kernel_rfl
  case p0x3 => exact (fun _ _ _ h => h)
  case u0x3 => (refine Or.inl ⟨by rfl, ?_⟩; intro w hSw; (try dsimp only at hSw); go_simp; (try rw [if_neg (by omega)]); try with_reducible rfl)
  try simp only [Act.put, List.setIfInBounds_toArray, List.set_cons_zero, List.set_cons_succ]
  refine wpAnyH_take (i := 4) (oi := ?o0x4) (v := ?v0x4) ?q0x4 (by kernel_rfl) ?f0x4 ?g0x4 ?p0x4 ?u0x4 (by assumption) ?r0x4
  case q0x4 => (rw [List.getElem?_toArray]; rfl)
  case f0x4 => kernel_rfl
  case g0x4 => kernel_rfl
  case p0x4 => exact (fun _ _ _ h => h)
  case u0x4 => (refine Or.inl ⟨by rfl, ?_⟩; intro w hSw; (try dsimp only at hSw); go_simp; (try rw [if_neg (by omega)]); try with_reducible rfl)
  try simp only [Act.put, List.setIfInBounds_toArray, List.set_cons_zero, List.set_cons_succ]
  refine wpAnyH_take (i := 5) (oi := ?o0x5) (v := ?v0x5) ?q0x5 (by kernel_rfl) ?f0x5 ?g0x5 ?p0x5 ?u0x5 (by assumption) ?r0x5
  case q0x5 => (rw [List.getElem?_toArray]; rfl)
  case f0x5 => kernel_rfl
  case g0x5 => kernel_rfl
  case p0x5 => exact (fun _ _ _ h => h)
  case u0x5 => (refine Or.inl ⟨by rfl, ?_⟩; intro w hSw; (try dsimp only at hSw); go_simp; (try rw [if_neg (by omega)]); try with_reducible rfl)
  try simp only [Act.put, List.setIfInBounds_toArray, List.set_cons_zero, List.set_cons_succ]
  refine wpAnyH_take (i := 6) (oi := ?o0x6) (v := ?v0x6) ?q0x6 (by kernel_rfl) ?f0x6 ?g0x6 ?p0x6 ?u0x6 (by assumption) ?r0x6
  case q0x6 => (rw [List.getElem?_toArray]; rfl)
  case f0x6 => kernel_rfl
  case g0x6 => kernel_rfl
  case p0x6 => exact (fun _ _ _ h => h)
  case u0x6 => (refine Or.inl ⟨by rfl, ?_⟩; intro w hSw; (try dsimp only at hSw); go_simp; (try rw [if_neg (by omega)]); try with_reducible rfl)
  try simp only [Act.put, List.setIfInBounds_toArray, List.set_cons_zero, List.set_cons_succ]
  refine wpAnyH_take (i := 7) (oi := ?o0x7) (v := ?v0x7) ?q0x7 (by kernel_rfl) ?f0x7 ?g0x7 ?p0x7 ?u0x7 (by assumption) ?r0x7
  case q0x7 => (rw [List.getElem?_toArray]; rfl)
  case f0x7 => kernel_rfl
  case g0x7 => kernel_rfl
  case p0x7 => exact (fun _ _ _ h => h)
  case u0x7 => (refine Or.inl ⟨by rfl, ?_⟩; intro w hSw; (try dsimp only at hSw); go_simp; (try rw [if_neg (by omega)]); try with_reducible rfl)
  try simp only [Act.put, List.setIfInBounds_toArray, List.set_cons_zero, List.set_cons_succ]
  refine em_spine (items := [⟨none, 8, 31⟩]) (E := [⟨12, [], [], 3, 30⟩]) (r0 := 25) (by kernel_rfl) (by kernel_rfl) (by kernel_rfl) (by rfl) ?lb1 (by rfl) (by rfl) ?len1 (fun w' l' C => ⟨(HKm.out.next Hv.out C).cell, (C.mk HM.out).c0⟩) (HC.out.quiet (Mod.refl _ _).drew) (by kernel_rfl) ?_
  case lb1 => (intro e he hk; simp only [List.mem_cons, List.not_mem_nil, or_false] at he; rcases he with rfl <;> (first | exact absurd rfl hk | exact congrArg Value.string (rfl)))
  case len1 => (first | (simp [takeCode, giveCode, joinCode, awayCode, eachCode, turnGo, waitGo, turnCode] <;> omega) | (simp <;> omega))
  intro U x1 C hU
  have u31 : U 31 = _ := hU 0 _ rfl
  simp only [spTmps, SpI.tmps, List.flatMap_cons, List.flatMap_nil, Option.map_some, Option.map_none, Option.toList_some, Option.toList_none, List.cons_append, List.nil_append, List.append_nil, patch, List.foldl_cons, List.foldl_nil, Act.put, List.setIfInBounds_toArray, List.set_cons_zero, List.set_cons_succ, u31]
  clear u31 hU hHeld
  simp only [List.map_cons, List.map_nil, EmC.ins, List.getD_cons_zero, List.getD_cons_succ, List.getD_nil] at C
  have HC1 := Lib.hid C
  clear C
  have h0 := (HC1.out.mk HM.out).c0
  have h1 := (HC1.out.mk HM.out).c1
  have h2 := (HC1.out.mk HM.out).c2
  have h3 := (HC1.out.mk HM.out).c3
  have hm := (HKm.out.next Hv.out HC1.out).cell
  have hp := (HKp.out.next Hv.out HC1.out).cell
  go_wp2_with fail
  clear h0 h1 h2 h3 hm hp
  have hg := gtake_chain HC1.out (HC1.out.mk HM.out) (by simp [takeCode, giveCode, joinCode, awayCode, eachCode, turnGo, waitGo, turnCode] <;> omega) Hn.out hs
  refine hg.mono ?_
  rintro e x2 ⟨rfl, C⟩
  have HC2 := Lib.hid C
  clear C hg
  have h0 := (HC2.out.mk HM.out).c0
  have h1 := (HC2.out.mk HM.out).c1
  have h2 := (HC2.out.mk HM.out).c2
  have h3 := (HC2.out.mk HM.out).c3
  have hm := (HKm.out.next Hv.out HC2.out).cell
  have hp := (HKp.out.next Hv.out HC2.out).cell
  go_wp2_with fail
  clear h0 h1 h2 h3 hm hp
  have hg := gturn_chain (s ++ ⟨#[46, 120]⟩) (size_plus2 s _ _ hs) 12 rfl HC2.out (HC2.out.mk HM.out) (by simp [takeCode, giveCode, joinCode, awayCode, eachCode, turnGo, waitGo, turnCode] <;> omega)
  refine hg.mono ?_
  rintro e x3 ⟨rfl, C⟩
  have HC3 := Lib.hid C
  clear C hg
  have h0 := (HC3.out.mk HM.out).c0
  have h1 := (HC3.out.mk HM.out).c1
  have h2 := (HC3.out.mk HM.out).c2
  have h3 := (HC3.out.mk HM.out).c3
  have hm := (HKm.out.next Hv.out HC3.out).cell
  have hp := (HKp.out.next Hv.out HC3.out).cell
  go_wp2_with fail
  clear h0 h1 h2 h3 hm hp
  have hg := gturn_chain (s ++ ⟨#[46, 121]⟩) (size_plus2 s _ _ hs) 12 rfl HC3.out (HC3.out.mk HM.out) (by simp [takeCode, giveCode, joinCode, awayCode, eachCode, turnGo, waitGo, turnCode] <;> omega)
  refine hg.mono ?_
  rintro e x4 ⟨rfl, C⟩
  have HC4 := Lib.hid C
  clear C hg
  go_wp2
  refine wp_region_held_drew (S := fun W => W.cell? ⟨w1.heap.size, 0, none⟩ = some (.pointer (some ⟨b, 0, none⟩)) ∧ W.cell? ⟨b, 0, none⟩ = some (.string (opStr 12))) (by kernel_rfl) ⟨(Mod.refl noF _).drew.cell (HKm.out.next Hv.out HC4.out).cell (fun e => e), (Mod.refl noF _).drew.cell (HC4.out.mk HM.out).c0 (fun e => e)⟩ (fun hHeld => ?_)
  refine wpAnyH_take (i := 0) (oi := ?o4x0) (v := ?v4x0) ?q4x0 (by kernel_rfl) ?f4x0 ?g4x0 ?p4x0 ?u4x0 (by assumption) ?r4x0
  case q4x0 => (rw [List.getElem?_toArray]; rfl)
  case f4x0 => kernel_rfl
  case g4x0 => kernel_rfl
  case p4x0 => exact (fun _ _ _ h => h)
  case u4x0 => (refine Or.inl ⟨by rfl, ?_⟩; intro w hSw; (try dsimp only at hSw); go_simp; (try rw [if_neg (by omega)]); try with_reducible rfl)
  try simp only [Act.put, List.setIfInBounds_toArray, List.set_cons_zero, List.set_cons_succ]
  refine wpAnyH_take (i := 1) (oi := ?o4x1) (v := ?v4x1) ?q4x1 (by kernel_rfl) ?f4x1 ?g4x1 ?p4x1 ?u4x1 (by assumption) ?r4x1
  case q4x1 => (rw [List.getElem?_toArray]; rfl)
  case f4x1 => kernel_rfl
  case g4x1 => kernel_rfl
  case p4x1 => exact (fun _ _ _ h => h)
  case u4x1 => (refine Or.inl ⟨by rfl, ?_⟩; intro w hSw; (try dsimp only at hSw); go_simp; (try rw [if_neg (by omega)]); try with_reducible rfl)
  try simp only [Act.put, List.setIfInBounds_toArray, List.set_cons_zero, List.set_cons_succ]
  refine wpAnyH_take (i := 2) (oi := ?o4x2) (v := ?v4x2) ?q4x2 (by kernel_rfl) ?f4x2 ?g4x2 ?p4x2 ?u4x2 (by assumption) ?r4x2
  case q4x2 => (rw [List.getElem?_toArray]; rfl)
  case f4x2 => kernel_rfl
  case g4x2 => kernel_rfl
  case p4x2 => exact (fun _ _ _ h => h)
  case u4x2 => (refine Or.inl ⟨by rfl, ?_⟩; intro w hSw; (try dsimp only at hSw); go_simp; (try rw [if_neg (by omega)]); try with_reducible rfl)
  try simp only [Act.put, List.setIfInBounds_toArray, List.set_cons_zero, List.set_cons_succ]
  refine wpAnyH_take (i := 3) (oi := ?o4x3) (v := ?v4x3) ?q4x3 (by kernel_rfl) ?f4x3 ?g4x3 ?p4x3 ?u4x3 (by assumption) ?r4x3
  case q4x3 => (rw [List.getElem?_toArray]; rfl)
  case f4x3 => kernel_rfl
  case g4x3 => kernel_rfl
  case p4x3 => exact (fun _ _ _ h => h)
  case u4x3 => (refine Or.inl ⟨by rfl, ?_⟩; intro w hSw; (try dsimp only at hSw); go_simp; (try rw [if_neg (by omega)]); try with_reducible rfl)
  try simp only [Act.put, List.setIfInBounds_toArray, List.set_cons_zero, List.set_cons_succ]
  refine wpAnyH_take (i := 4) (oi := ?o4x4) (v := ?v4x4) ?q4x4 (by kernel_rfl) ?f4x4 ?g4x4 ?p4x4 ?u4x4 (by assumption) ?r4x4
  case q4x4 => (rw [List.getElem?_toArray]; rfl)
  case f4x4 => kernel_rfl
  case g4x4 => kernel_rfl
  case p4x4 => exact (fun _ _ _ h => h)
  case u4x4 => (refine Or.inl ⟨by rfl, ?_⟩; intro w hSw; (try dsimp only at hSw); go_simp; (try rw [if_neg (by omega)]); try with_reducible rfl)
  try simp only [Act.put, List.setIfInBounds_toArray, List.set_cons_zero, List.set_cons_succ]
  refine wpAnyH_take (i := 5) (oi := ?o4x5) (v := ?v4x5) ?q4x5 (by kernel_rfl) ?f4x5 ?g4x5 ?p4x5 ?u4x5 (by assumption) ?r4x5
  case q4x5 => (rw [List.getElem?_toArray]; rfl)
  case f4x5 => kernel_rfl
  case g4x5 => kernel_rfl
  case p4x5 => exact (fun _ _ _ h => h)
  case u4x5 => (refine Or.inl ⟨by rfl, ?_⟩; intro w hSw; (try dsimp only at hSw); go_simp; (try rw [if_neg (by omega)]); try with_reducible rfl)
  try simp only [Act.put, List.setIfInBounds_toArray, List.set_cons_zero, List.set_cons_succ]
  refine wpAnyH_take (i := 6) (oi := ?o4x6) (v := ?v4x6) ?q4x6 (by kernel_rfl) ?f4x6 ?g4x6 ?p4x6 ?u4x6 (by assumption) ?r4x6
  case q4x6 => (rw [List.getElem?_toArray]; rfl)
  case f4x6 => kernel_rfl
  case g4x6 => kernel_rfl
  case p4x6 => exact (fun _ _ _ h => h)
  case u4x6 => (refine Or.inl ⟨by rfl, ?_⟩; intro w hSw; (try dsimp only at hSw); go_simp; (try rw [if_neg (by omega)]); try with_reducible rfl)
  try simp only [Act.put, List.setIfInBounds_toArray, List.set_cons_zero, List.set_cons_succ]
  refine wpAnyH_take (i := 7) (oi := ?o4x7) (v := ?v4x7) ?q4x7 (by kernel_rfl) ?f4x7 ?g4x7 ?p4x7 ?u4x7 (by assumption) ?r4x7
  case q4x7 => (rw [List.getElem?_toArray]; rfl)
  case f4x7 => kernel_rfl
  case g4x7 => kernel_rfl
  case p4x7 => exact (fun _ _ _ h => h)
  case u4x7 => (refine Or.inl ⟨by rfl, ?_⟩; intro w hSw; (try dsimp only at hSw); go_simp; (try rw [if_neg (by omega)]); try with_reducible rfl)
  try simp only [Act.put, List.setIfInBounds_toArray, List.set_cons_zero, List.set_cons_succ]
  refine em_spine (items := [⟨none, 8, 50⟩]) (E := [⟨12, [], [], 3, 49⟩]) (r0 := 44) (by kernel_rfl) (by kernel_rfl) (by kernel_rfl) (by rfl) ?lb5 (by rfl) (by rfl) ?len5 (fun w' l' C => ⟨(HKm.out.next Hv.out C).cell, (C.mk HM.out).c0⟩) (HC4.out.quiet (Mod.refl _ _).drew) (by kernel_rfl) ?_
  case lb5 => (intro e he hk; simp only [List.mem_cons, List.not_mem_nil, or_false] at he; rcases he with rfl <;> (first | exact absurd rfl hk | exact congrArg Value.string (rfl)))
  case len5 => (first | (simp [takeCode, giveCode, joinCode, awayCode, eachCode, turnGo, waitGo, turnCode] <;> omega) | (simp <;> omega))
  intro U x5 C hU
  have u50 : U 50 = _ := hU 0 _ rfl
  simp only [spTmps, SpI.tmps, List.flatMap_cons, List.flatMap_nil, Option.map_some, Option.map_none, Option.toList_some, Option.toList_none, List.cons_append, List.nil_append, List.append_nil, patch, List.foldl_cons, List.foldl_nil, Act.put, List.setIfInBounds_toArray, List.set_cons_zero, List.set_cons_succ, u50]
  clear u50 hU hHeld
  simp only [List.map_cons, List.map_nil, EmC.ins, List.getD_cons_zero, List.getD_cons_succ, List.getD_nil] at C
  have HC5 := Lib.hid C
  clear C
  have h0 := (HC5.out.mk HM.out).c0
  have h1 := (HC5.out.mk HM.out).c1
  have h2 := (HC5.out.mk HM.out).c2
  have h3 := (HC5.out.mk HM.out).c3
  have hm := (HKm.out.next Hv.out HC5.out).cell
  have hp := (HKp.out.next Hv.out HC5.out).cell
  go_wp2_with fail
  clear h0 h1 h2 h3 hm hp
  have hg := ggive_chain HC5.out (HC5.out.mk HM.out) (by simp [takeCode, giveCode, joinCode, awayCode, eachCode, turnGo, waitGo, turnCode] <;> omega) Hn.out hs
  refine hg.mono ?_
  rintro e x6 ⟨rfl, C⟩
  have HC6 := Lib.hid C
  clear C hg
  have h0 := (HC6.out.mk HM.out).c0
  have h1 := (HC6.out.mk HM.out).c1
  have h2 := (HC6.out.mk HM.out).c2
  have h3 := (HC6.out.mk HM.out).c3
  have hm := (HKm.out.next Hv.out HC6.out).cell
  have hp := (HKp.out.next Hv.out HC6.out).cell
  obtain ⟨v, ec, hv⟩ := HC6.out.made (w := w) (by simp [Value.ownBlock]) Hm.out hb
  have Hv := Lib.hid hv
  clear hv
  go_wp2
  go_ret2
  exact ⟨v, rfl, by rw [← gwait1_eq]; simpa [List.append_assoc] using Hv.out⟩
end Go.Proofs.YtppihkneeolomaaGreatDoor
end
/- package grace, flavour 2: its code, made. -/
section
namespace Go.Proofs.YtppihkneeolomaaGreatDoor
open Go.RowKit Qs Qh
variable {w0 w w1 : World} {b o : Nat} {v0 : Value} {l : List Instr} {br s : ByteArray} {fe jo co : Bool} {u : Value} {c : Nat}
set_option maxRecDepth 4000 in
set_option maxHeartbeats 8000000 in
theorem genter2_ok (s : ByteArray) (w : World) (hn : nameB s.data.toList = true) (hs : s.size ≤ 4) :
    Calls Tryz.prog 75 #[.int .i64 2, .string s] w fun e w' => ∃ v, e = .returned (.tuple #[v, .nilIface]) ∧ Made (preC s.data.toList gc20) w v w' := by
  have Hn := Lib.hid hn
  clear hn
  go_enter Tryz.func75, Tryz.ntmps75
  go_wp2_with fail
  refine (begin2_ok s w Hn.out hs).mono ?_
  rintro e x0 ⟨b, rfl, hm, hb, E, M⟩
  have HC := Lib.hid (Chain.start E)
  have HM := Lib.hid M
  have Hm := Lib.hid hm
  clear hm E M
  have h0 := (HC.out.mk HM.out).c0
  have h1 := (HC.out.mk HM.out).c1
  have h2 := (HC.out.mk HM.out).c2
  have h3 := (HC.out.mk HM.out).c3
  go_wp2_with fail
  refine (op3_chain (HC.out.quiet ((Mod.refl _ _).alloc _)) (by first | omega | simp) 6 _ rfl x0.heap.size 0 6 0 3 (by simp) (by simp) (by simp) (by simp)).mono ?_
  clear h0 h1 h2 h3
  rintro e x1 ⟨rfl, C⟩
  have HC1 := Lib.hid C
  clear C
  have h0 := (HC1.out.mk HM.out).c0
  have h1 := (HC1.out.mk HM.out).c1
  have h2 := (HC1.out.mk HM.out).c2
  have h3 := (HC1.out.mk HM.out).c3
  go_wp2_with fail
  refine (op2_chain (HC1.out.quiet ((Mod.refl _ _).alloc _)) (by simp [takeCode, giveCode, joinCode, awayCode, eachCode, turnGo, waitGo, turnCode] <;> omega) 0 _ rfl x1.heap.size 1 255 2 (by simp) (by simp) (by simp)).mono ?_
  clear h0 h1 h2 h3
  rintro e x2 ⟨rfl, C⟩
  have HC2 := Lib.hid C
  clear C
  have h0 := (HC2.out.mk HM.out).c0
  have h1 := (HC2.out.mk HM.out).c1
  have h2 := (HC2.out.mk HM.out).c2
  have h3 := (HC2.out.mk HM.out).c3
  go_wp2_with fail
  refine (op3_chain (HC2.out.quiet ((Mod.refl _ _).alloc _)) (by simp [takeCode, giveCode, joinCode, awayCode, eachCode, turnGo, waitGo, turnCode] <;> omega) 4 _ rfl x2.heap.size 1 0 1 3 (by simp) (by simp) (by simp) (by simp)).mono ?_
  clear h0 h1 h2 h3
  rintro e x3 ⟨rfl, C⟩
  have HC3 := Lib.hid C
  clear C
  have h0 := (HC3.out.mk HM.out).c0
  have h1 := (HC3.out.mk HM.out).c1
  have h2 := (HC3.out.mk HM.out).c2
  have h3 := (HC3.out.mk HM.out).c3
  go_wp2_with fail
  refine (to1_chain (HC3.out.quiet ((Mod.refl _ _).alloc _)) (by simp [takeCode, giveCode, joinCode, awayCode, eachCode, turnGo, waitGo, turnCode] <;> omega) 14 _ rfl (s.data.toList ++ [46, 97]) _ (bytes_cat s _) x3.heap.size 1 1 (by simp) (by simp)).mono ?_
  clear h0 h1 h2 h3
  rintro e x4 ⟨rfl, C⟩
  have HC4 := Lib.hid C
  clear C
  have h0 := (HC4.out.mk HM.out).c0
  have h1 := (HC4.out.mk HM.out).c1
  have h2 := (HC4.out.mk HM.out).c2
  have h3 := (HC4.out.mk HM.out).c3
  go_wp2_with fail
  refine (op2_chain (HC4.out.quiet ((Mod.refl _ _).alloc _)) (by simp [takeCode, giveCode, joinCode, awayCode, eachCode, turnGo, waitGo, turnCode] <;> omega) 0 _ rfl x4.heap.size 1 1 2 (by simp) (by simp) (by simp)).mono ?_
  clear h0 h1 h2 h3
  rintro e x5 ⟨rfl, C⟩
  have HC5 := Lib.hid C
  clear C
  have h0 := (HC5.out.mk HM.out).c0
  have h1 := (HC5.out.mk HM.out).c1
  have h2 := (HC5.out.mk HM.out).c2
  have h3 := (HC5.out.mk HM.out).c3
  go_wp2_with fail
  refine (op3_chain (HC5.out.quiet ((Mod.refl _ _).alloc _)) (by simp [takeCode, giveCode, joinCode, awayCode, eachCode, turnGo, waitGo, turnCode] <;> omega) 2 _ rfl x5.heap.size 0 0 1 3 (by simp) (by simp) (by simp) (by simp)).mono ?_
  clear h0 h1 h2 h3
  rintro e x6 ⟨rfl, C⟩
  have HC6 := Lib.hid C
  clear C
  have h0 := (HC6.out.mk HM.out).c0
  have h1 := (HC6.out.mk HM.out).c1
  have h2 := (HC6.out.mk HM.out).c2
  have h3 := (HC6.out.mk HM.out).c3
  go_wp2_with fail
  refine (op3_chain (HC6.out.quiet ((Mod.refl _ _).alloc _)) (by simp [takeCode, giveCode, joinCode, awayCode, eachCode, turnGo, waitGo, turnCode] <;> omega) 7 _ rfl x6.heap.size 6 0 0 3 (by simp) (by simp) (by simp) (by simp)).mono ?_
  clear h0 h1 h2 h3
  rintro e x7 ⟨rfl, C⟩
  have HC7 := Lib.hid C
  clear C
  have h0 := (HC7.out.mk HM.out).c0
  have h1 := (HC7.out.mk HM.out).c1
  have h2 := (HC7.out.mk HM.out).c2
  have h3 := (HC7.out.mk HM.out).c3
  go_wp2_with fail
  refine (to0_chain HC7.out (by simp [takeCode, giveCode, joinCode, awayCode, eachCode, turnGo, waitGo, turnCode] <;> omega) 16 _ rfl (s.data.toList ++ [46, 98]) _ (bytes_cat s _)).mono ?_
  clear h0 h1 h2 h3
  rintro e x8 ⟨rfl, C⟩
  have HC8 := Lib.hid C
  clear C
  have h0 := (HC8.out.mk HM.out).c0
  have h1 := (HC8.out.mk HM.out).c1
  have h2 := (HC8.out.mk HM.out).c2
  have h3 := (HC8.out.mk HM.out).c3
  go_wp2_with fail
  refine (label_chain HC8.out (by simp [takeCode, giveCode, joinCode, awayCode, eachCode, turnGo, waitGo, turnCode] <;> omega) (s.data.toList ++ [46, 97]) _ (bytes_cat s _)).mono ?_
  clear h0 h1 h2 h3
  rintro e x9 ⟨rfl, C⟩
  have HC9 := Lib.hid C
  clear C
  have h0 := (HC9.out.mk HM.out).c0
  have h1 := (HC9.out.mk HM.out).c1
  have h2 := (HC9.out.mk HM.out).c2
  have h3 := (HC9.out.mk HM.out).c3
  go_wp2_with fail
  refine (op3_chain (HC9.out.quiet ((Mod.refl _ _).alloc _)) (by simp [takeCode, giveCode, joinCode, awayCode, eachCode, turnGo, waitGo, turnCode] <;> omega) 6 _ rfl x9.heap.size 0 7 0 3 (by simp) (by simp) (by simp) (by simp)).mono ?_
  clear h0 h1 h2 h3
  rintro e x10 ⟨rfl, C⟩
  have HC10 := Lib.hid C
  clear C
  have h0 := (HC10.out.mk HM.out).c0
  have h1 := (HC10.out.mk HM.out).c1
  have h2 := (HC10.out.mk HM.out).c2
  have h3 := (HC10.out.mk HM.out).c3
  go_wp2_with fail
  refine (op3_chain (HC10.out.quiet ((Mod.refl _ _).alloc _)) (by simp [takeCode, giveCode, joinCode, awayCode, eachCode, turnGo, waitGo, turnCode] <;> omega) 7 _ rfl x10.heap.size 6 0 0 3 (by simp) (by simp) (by simp) (by simp)).mono ?_
  clear h0 h1 h2 h3
  rintro e x11 ⟨rfl, C⟩
  have HC11 := Lib.hid C
  clear C
  have h0 := (HC11.out.mk HM.out).c0
  have h1 := (HC11.out.mk HM.out).c1
  have h2 := (HC11.out.mk HM.out).c2
  have h3 := (HC11.out.mk HM.out).c3
  go_wp2_with fail
  refine (label_chain HC11.out (by simp [takeCode, giveCode, joinCode, awayCode, eachCode, turnGo, waitGo, turnCode] <;> omega) (s.data.toList ++ [46, 98]) _ (bytes_cat s _)).mono ?_
  clear h0 h1 h2 h3
  rintro e x12 ⟨rfl, C⟩
  have HC12 := Lib.hid C
  clear C
  obtain ⟨v, ec, hv⟩ := HC12.out.made (w := w) (by simp [Value.ownBlock]) Hm.out hb
  have Hv := Lib.hid hv
  clear hv
  go_wp2
  go_ret2
  exact ⟨v, rfl, by rw [← genter2_eq]; simpa [List.append_assoc] using Hv.out⟩
set_option maxRecDepth 4000 in
set_option maxHeartbeats 8000000 in
theorem gleave2_ok (s : ByteArray) (w : World) (hn : nameB s.data.toList = true) (hs : s.size ≤ 4) :
    Calls Tryz.prog 76 #[.int .i64 2, .string s] w fun e w' => ∃ v, e = .returned (.tuple #[v, .nilIface]) ∧ Made (preC s.data.toList gc21) w v w' := by
  have Hn := Lib.hid hn
  clear hn
  go_enter Tryz.func76, Tryz.ntmps76
  go_wp2_with fail
  refine (begin2_ok s w Hn.out hs).mono ?_
  rintro e x0 ⟨b, rfl, hm, hb, E, M⟩
  have HC := Lib.hid (Chain.start E)
  have HM := Lib.hid M
  have Hm := Lib.hid hm
  clear hm E M
  have h0 := (HC.out.mk HM.out).c0
  have h1 := (HC.out.mk HM.out).c1
  have h2 := (HC.out.mk HM.out).c2
  have h3 := (HC.out.mk HM.out).c3
  go_wp2_with fail
  refine (op3_chain (HC.out.quiet ((Mod.refl _ _).alloc _)) (by first | omega | simp) 6 _ rfl x0.heap.size 0 6 0 3 (by simp) (by simp) (by simp) (by simp)).mono ?_
  clear h0 h1 h2 h3
  rintro e x1 ⟨rfl, C⟩
  have HC1 := Lib.hid C
  clear C
  have h0 := (HC1.out.mk HM.out).c0
  have h1 := (HC1.out.mk HM.out).c1
  have h2 := (HC1.out.mk HM.out).c2
  have h3 := (HC1.out.mk HM.out).c3
  go_wp2_with fail
  refine (op2_chain (HC1.out.quiet ((Mod.refl _ _).alloc _)) (by simp [takeCode, giveCode, joinCode, awayCode, eachCode, turnGo, waitGo, turnCode] <;> omega) 0 _ rfl x1.heap.size 1 1 2 (by simp) (by simp) (by simp)).mono ?_
  clear h0 h1 h2 h3
  rintro e x2 ⟨rfl, C⟩
  have HC2 := Lib.hid C
  clear C
  have h0 := (HC2.out.mk HM.out).c0
  have h1 := (HC2.out.mk HM.out).c1
  have h2 := (HC2.out.mk HM.out).c2
  have h3 := (HC2.out.mk HM.out).c3
  go_wp2_with fail
  refine (op3_chain (HC2.out.quiet ((Mod.refl _ _).alloc _)) (by simp [takeCode, giveCode, joinCode, awayCode, eachCode, turnGo, waitGo, turnCode] <;> omega) 3 _ rfl x2.heap.size 0 0 1 3 (by simp) (by simp) (by simp) (by simp)).mono ?_
  clear h0 h1 h2 h3
  rintro e x3 ⟨rfl, C⟩
  have HC3 := Lib.hid C
  clear C
  have h0 := (HC3.out.mk HM.out).c0
  have h1 := (HC3.out.mk HM.out).c1
  have h2 := (HC3.out.mk HM.out).c2
  have h3 := (HC3.out.mk HM.out).c3
  go_wp2_with fail
  refine (op3_chain (HC3.out.quiet ((Mod.refl _ _).alloc _)) (by simp [takeCode, giveCode, joinCode, awayCode, eachCode, turnGo, waitGo, turnCode] <;> omega) 7 _ rfl x3.heap.size 6 0 0 3 (by simp) (by simp) (by simp) (by simp)).mono ?_
  clear h0 h1 h2 h3
  rintro e x4 ⟨rfl, C⟩
  have HC4 := Lib.hid C
  clear C
  obtain ⟨v, ec, hv⟩ := HC4.out.made (w := w) (by simp [Value.ownBlock]) Hm.out hb
  have Hv := Lib.hid hv
  clear hv
  go_wp2
  go_ret2
  exact ⟨v, rfl, by rw [← gleave2_eq]; simpa [List.append_assoc] using Hv.out⟩
set_option maxRecDepth 4000 in
set_option maxHeartbeats 8000000 in
theorem grest2_ok (s : ByteArray) (w : World) (hn : nameB s.data.toList = true) (hs : s.size ≤ 4) :
    Calls Tryz.prog 85 #[.int .i64 2, .string s] w fun e w' => ∃ v, e = .returned (.tuple #[v, .nilIface]) ∧ Made (preC s.data.toList gc22) w v w' := by
  have Hn := Lib.hid hn
  clear hn
  go_enter Tryz.func85, Tryz.ntmps85
  go_wp2_with fail
  refine (begin2_ok s w Hn.out hs).mono ?_
  rintro e x0 ⟨b, rfl, hm, hb, E, M⟩
  have h3 := M.c3
  have Hm := Lib.hid hm
  clear hm hb E M
  go_wp2
  go_ret2
  exact ⟨_, rfl, InsRow.nil _ _, Hm.out.toBelow, by simp [Value.ownBlock]⟩
set_option maxRecDepth 4000 in
set_option maxHeartbeats 8000000 in
theorem ggone2_ok (s : ByteArray) (w : World) (hn : nameB s.data.toList = true) (hs : s.size ≤ 4) :
    Calls Tryz.prog 48 #[.int .i64 2, .string s] w fun e w' => ∃ v, e = .returned (.tuple #[v, .nilIface]) ∧ Made (preC s.data.toList gc23) w v w' := by
  have Hn := Lib.hid hn
  clear hn
  go_enter Tryz.func48, Tryz.ntmps48
  go_wp2_with fail
  refine (begin2_ok s w Hn.out hs).mono ?_
  rintro e x0 ⟨b, rfl, hm, hb, E, M⟩
  have h3 := M.c3
  have Hm := Lib.hid hm
  clear hm hb E M
  go_wp2
  go_ret2
  exact ⟨_, rfl, InsRow.nil _ _, Hm.out.toBelow, by simp [Value.ownBlock]⟩
set_option maxRecDepth 4000 in
set_option maxHeartbeats 8000000 in
theorem gwait2_ok (s : ByteArray) (w : World) (hn : nameB s.data.toList = true) (hs : s.size ≤ 4) :
    Calls Tryz.prog 86 #[.int .i64 2, .string s] w fun e w' => ∃ v, e = .returned (.tuple #[v, .nilIface]) ∧ Made (preC s.data.toList gc24) w v w' := by
  have Hn := Lib.hid hn
  clear hn
  go_enter Tryz.func86, Tryz.ntmps86
  go_wp2_with fail
  refine (begin2_ok s _ Hn.out hs).mono ?_
  rintro e w1 ⟨b, rfl, hm, hb0, E, M⟩
  have hsw := hm.size
  have hlb := E.lt
  have hb1 : w.heap.size < b := by simp at hb0; omega
  have hp0 : w1.cell? ⟨w.heap.size, 0, none⟩ = some (.string s) := hm.cell (by simp) (fun e => e)
  have hq : Mod noF w1 (w1.alloc (.cells #[.pointer (some ⟨b, 0, none⟩)] 135)) := (Mod.refl _ _).alloc _
  have E1 := E.quiet hq
  have HC := Lib.hid (Chain.start E1)
  have HM := Lib.hid (M.quiet hq)
  have Hm := Lib.hid ((((Mod.refl noF w).alloc _).trans0 hm).trans0 hq)
  have Hv := Lib.hid E1.cell
  have hcp : w.heap.size < w1.heap.size := by simp at hsw; omega
  have hrow : ∀ (c : Nat) v, (w1.alloc (.cells #[.pointer (some ⟨b, 0, none⟩)] 135)).cell? ⟨b, 4, none⟩ = some v → v.ownBlock ≠ some c := fun c v h e => by
    rw [E1.cell] at h; cases h; cases e
  have HKm := Lib.hid (⟨by simp, by simp, by omega, hrow _⟩ : Cap (w1.alloc (.cells #[.pointer (some ⟨b, 0, none⟩)] 135)) b w1.heap.size (.pointer (some ⟨b, 0, none⟩)))
  have HKp := Lib.hid (⟨hq.cell hp0 (fun e => e), by simp; omega, by omega, hrow _⟩ : Cap (w1.alloc (.cells #[.pointer (some ⟨b, 0, none⟩)] 135)) b w.heap.size (.string s))
  have hb : w.heap.size ≤ b := by omega
  clear hm E M E1 hq hp0 hrow hsw hb0 hb1
  have h0 := (HC.out.mk HM.out).c0
  have h1 := (HC.out.mk HM.out).c1
  have h2 := (HC.out.mk HM.out).c2
  have h3 := (HC.out.mk HM.out).c3
  have hm := (HKm.out.next Hv.out HC.out).cell
  have hp := (HKp.out.next Hv.out HC.out).cell
  go_wp2
  clear h0 h1 h2 h3 hm hp
  go_wp2
  refine wp_region_held_drew (S := fun W => W.cell? ⟨w1.heap.size, 0, none⟩ = some (.pointer (some ⟨b, 0, none⟩)) ∧ W.cell? ⟨b, 0, none⟩ = some (.string (opStr 13))) (by kernel_rfl) ⟨(Mod.refl noF _).drew.cell (HKm.out.next Hv.out HC.out).cell (fun e => e), (Mod.refl noF _).drew.cell (HC.out.mk HM.out).c0 (fun e => e)⟩ (fun hHeld => ?_)
  refine wpAnyH_take (i := 0) (oi := ?o0x0) (v := ?v0x0) ?q0x0 (by kernel_rfl) ?f0x0 ?g0x0 ?p0x0 ?u0x0 (by assumption) ?r0x0
  case q0x0 => (rw [List.getElem?_toArray]; rfl)
  case f0x0 => kernel_rfl
  case g0x0 => kernel_rfl
  case p0x0 => exact (fun _ _ _ h => h)
  case u0x0 => (refine Or.inl ⟨by rfl, ?_⟩; intro w hSw; (try dsimp only at hSw); go_simp; (try rw [if_neg (by omega)]); try with_reducible rfl)
  try simp only [Act.put, List.setIfInBounds_toArray, List.set_cons_zero, List.set_cons_succ]
  refine wpAnyH_take (i := 1) (oi := ?o0x1) (v := ?v0x1) ?q0x1 (by kernel_rfl) ?f0x1 ?g0x1 ?p0x1 ?u0x1 (by assumption) ?r0x1
  case q0x1 => (rw [List.getElem?_toArray]; rfl)
  case f0x1 => kernel_rfl
  case g0x1 => kernel_rfl
  case p0x1 => exact (fun _ _ _ h => h)
  case u0x1 => (refine Or.inl ⟨by rfl, ?_⟩; intro w hSw; (try dsimp only at hSw); go_simp; (try rw [if_neg (by omega)]); try with_reducible rfl)
  try simp only [Act.put, List.setIfInBounds_toArray, List.set_cons_zero, List.set_cons_succ]
  refine wpAnyH_take (i := 2) (oi := ?o0x2) (v := ?v0x2) ?q0x2 (by kernel_rfl) ?f0x2 ?g0x2 ?p0x2 ?u0x2 (by assumption) ?r0x2
  case q0x2 => (rw [List.getElem?_toArray]; rfl)
  case f0x2 => kernel_rfl
  case g0x2 => kernel_rfl
  case p0x2 => exact (fun _ _ _ h => h)
  case u0x2 => (refine Or.inl ⟨by rfl, ?_⟩; intro w hSw; (try dsimp only at hSw); go_simp; (try rw [if_neg (by omega)]); try with_reducible rfl)
  try simp only [Act.put, List.setIfInBounds_toArray, List.set_cons_zero, List.set_cons_succ]
  refine wpAnyH_take (i := 3) (oi := ?o0x3) (v := ?v0x3) ?q0x3 (by kernel_rfl) ?f0x3 ?g0x3 ?p0x3 ?u0x3 (by assumption) ?r0x3
  case q0x3 => (rw [List.getElem?_toArray]; rfl)
  case f0x3 => kernel_rfl
  case g0x3 => kernel_rfl
  case p0x3 => exact (fun _ _ _ h => h)
  case u0x3 => (refine Or.inl ⟨by rfl, ?_⟩; intro w hSw; (try dsimp only at hSw); go_simp; (try rw [if_neg (by omega)]); try with_reducible rfl)
  try simp only [Act.put, List.setIfInBounds_toArray, List.set_cons_zero, List.set_cons_succ]
  refine wpAnyH_take (i := 4) (oi := ?o0x4) (v := ?v0x4) ?q0x4 (by kernel_rfl) ?f0x4 ?g0x4 ?p0x4 ?u0x4 (by assumption) ?r0x4
  case q0x4 => (rw [List.getElem?_toArray]; rfl)
  case f0x4 => kernel_rfl
  case g0x4 => kernel_rfl
  case p0x4 => exact (fun _ _ _ h => h)
  case u0x4 => (refine Or.inl ⟨by rfl, ?_⟩; intro w hSw; (try dsimp only at hSw); go_simp; (try rw [if_neg (by omega)]); try with_reducible rfl)
  try simp only [Act.put, List.setIfInBounds_toArray, List.set_cons_zero, List.set_cons_succ]
  refine wpAnyH_take (i := 5) (oi := ?o0x5) (v := ?v0x5) ?q0x5 (by kernel_rfl) ?f0x5 ?g0x5 ?p0x5 ?u0x5 (by assumption) ?r0x5
  case q0x5 => (rw [List.getElem?_toArray]; rfl)
  case f0x5 => kernel_rfl
  case g0x5 => kernel_rfl
  case p0x5 => exact (fun _ _ _ h => h)
  case u0x5 => (refine Or.inl ⟨by rfl, ?_⟩; intro w hSw; (try dsimp only at hSw); go_simp; (try rw [if_neg (by omega)]); try with_reducible rfl)
  try simp only [Act.put, List.setIfInBounds_toArray, List.set_cons_zero, List.set_cons_succ]
  refine wpAnyH_take (i := 6) (oi := ?o0x6) (v := ?v0x6) ?q0x6 (by kernel_rfl) ?f0x6 ?g0x6 ?p0x6 ?u0x6 (by assumption) ?r0x6
  case q0x6 => (rw [List.getElem?_toArray]; rfl)
  case f0x6 => kernel_rfl
  case g0x6 => kernel_rfl
  case p0x6 => exact (fun _ _ _ h => h)
  case u0x6 => (refine Or.inl ⟨by rfl, ?_⟩; intro w hSw; (try dsimp only at hSw); go_simp; (try rw [if_neg (by omega)]); try with_reducible rfl)
  try simp only [Act.put, List.setIfInBounds_toArray, List.set_cons_zero, List.set_cons_succ]
  refine wpAnyH_take (i := 7) (oi := ?o0x7) (v := ?v0x7) ?q0x7 (by kernel_rfl) ?f0x7 ?g0x7 ?p0x7 ?u0x7 (by assumption) ?r0x7
  case q0x7 => (rw [List.getElem?_toArray]; rfl)
  case f0x7 => kernel_rfl
  case g0x7 => kernel_rfl
  case p0x7 => exact (fun _ _ _ h => h)
  case u0x7 => (refine Or.inl ⟨by rfl, ?_⟩; intro w hSw; (try dsimp only at hSw); go_simp; (try rw [if_neg (by omega)]); try with_reducible rfl)
  try simp only [Act.put, List.setIfInBounds_toArray, List.set_cons_zero, List.set_cons_succ]
  refine em_spine (items := [⟨none, 8, 31⟩]) (E := [⟨13, [], [], 3, 30⟩]) (r0 := 25) (by kernel_rfl) (by kernel_rfl) (by kernel_rfl) (by rfl) ?lb1 (by rfl) (by rfl) ?len1 (fun w' l' C => ⟨(HKm.out.next Hv.out C).cell, (C.mk HM.out).c0⟩) (HC.out.quiet (Mod.refl _ _).drew) (by kernel_rfl) ?_
  case lb1 => (intro e he hk; simp only [List.mem_cons, List.not_mem_nil, or_false] at he; rcases he with rfl <;> (first | exact absurd rfl hk | exact congrArg Value.string (rfl)))
  case len1 => (first | (simp [takeCode, giveCode, joinCode, awayCode, eachCode, turnGo, waitGo, turnCode] <;> omega) | (simp <;> omega))
  intro U x1 C hU
  have u31 : U 31 = _ := hU 0 _ rfl
  simp only [spTmps, SpI.tmps, List.flatMap_cons, List.flatMap_nil, Option.map_some, Option.map_none, Option.toList_some, Option.toList_none, List.cons_append, List.nil_append, List.append_nil, patch, List.foldl_cons, List.foldl_nil, Act.put, List.setIfInBounds_toArray, List.set_cons_zero, List.set_cons_succ, u31]
  clear u31 hU hHeld
  simp only [List.map_cons, List.map_nil, EmC.ins, List.getD_cons_zero, List.getD_cons_succ, List.getD_nil] at C
  have HC1 := Lib.hid C
  clear C
  have h0 := (HC1.out.mk HM.out).c0
  have h1 := (HC1.out.mk HM.out).c1
  have h2 := (HC1.out.mk HM.out).c2
  have h3 := (HC1.out.mk HM.out).c3
  have hm := (HKm.out.next Hv.out HC1.out).cell
  have hp := (HKp.out.next Hv.out HC1.out).cell
  go_wp2_with fail
  clear h0 h1 h2 h3 hm hp
  have hg := gtake_chain HC1.out (HC1.out.mk HM.out) (by simp [takeCode, giveCode, joinCode, awayCode, eachCode, turnGo, waitGo, turnCode] <;> omega) Hn.out hs
  refine hg.mono ?_
  rintro e x2 ⟨rfl, C⟩
  have HC2 := Lib.hid C
  clear C hg
  have h0 := (HC2.out.mk HM.out).c0
  have h1 := (HC2.out.mk HM.out).c1
  have h2 := (HC2.out.mk HM.out).c2
  have h3 := (HC2.out.mk HM.out).c3
  have hm := (HKm.out.next Hv.out HC2.out).cell
  have hp := (HKp.out.next Hv.out HC2.out).cell
  go_wp2_with fail
  clear h0 h1 h2 h3 hm hp
  have hg := gturn_chain (s ++ ⟨#[46, 120]⟩) (size_plus2 s _ _ hs) 13 rfl HC2.out (HC2.out.mk HM.out) (by simp [takeCode, giveCode, joinCode, awayCode, eachCode, turnGo, waitGo, turnCode] <;> omega)
  refine hg.mono ?_
  rintro e x3 ⟨rfl, C⟩
  have HC3 := Lib.hid C
  clear C hg
  have h0 := (HC3.out.mk HM.out).c0
  have h1 := (HC3.out.mk HM.out).c1
  have h2 := (HC3.out.mk HM.out).c2
  have h3 := (HC3.out.mk HM.out).c3
  have hm := (HKm.out.next Hv.out HC3.out).cell
  have hp := (HKp.out.next Hv.out HC3.out).cell
  go_wp2_with fail
  clear h0 h1 h2 h3 hm hp
  have hg := gturn_chain (s ++ ⟨#[46, 121]⟩) (size_plus2 s _ _ hs) 13 rfl HC3.out (HC3.out.mk HM.out) (by simp [takeCode, giveCode, joinCode, awayCode, eachCode, turnGo, waitGo, turnCode] <;> omega)
  refine hg.mono ?_
  rintro e x4 ⟨rfl, C⟩
  have HC4 := Lib.hid C
  clear C hg
  go_wp2
  refine wp_region_held_drew (S := fun W => W.cell? ⟨w1.heap.size, 0, none⟩ = some (.pointer (some ⟨b, 0, none⟩)) ∧ W.cell? ⟨b, 0, none⟩ = some (.string (opStr 13))) (by kernel_rfl) ⟨(Mod.refl noF _).drew.cell (HKm.out.next Hv.out HC4.out).cell (fun e => e), (Mod.refl noF _).drew.cell (HC4.out.mk HM.out).c0 (fun e => e)⟩ (fun hHeld => ?_)
  refine wpAnyH_take (i := 0) (oi := ?o4x0) (v := ?v4x0) ?q4x0 (by kernel_rfl) ?f4x0 ?g4x0 ?p4x0 ?u4x0 (by assumption) ?r4x0
  case q4x0 => (rw [List.getElem?_toArray]; rfl)
  case f4x0 => kernel_rfl
  case g4x0 => kernel_rfl
  case p4x0 => exact (fun _ _ _ h => h)
  case u4x0 => (refine Or.inl ⟨by rfl, ?_⟩; intro w hSw; (try dsimp only at hSw); go_simp; (try rw [if_neg (by omega)]); try with_reducible rfl)
  try simp only [Act.put, List.setIfInBounds_toArray, List.set_cons_zero, List.set_cons_succ]
  refine wpAnyH_take (i := 1) (oi := ?o4x1) (v := ?v4x1) ?q4x1 (by kernel_rfl) ?f4x1 ?g4x1 ?p4x1 ?u4x1 (by assumption) ?r4x1
  case q4x1 => (rw [List.getElem?_toArray]; rfl)
  case f4x1 => kernel_rfl
  case g4x1 => kernel_rfl
  case p4x1 => exact (fun _ _ _ h => h)
  case u4x1 => (refine Or.inl ⟨by rfl, ?_⟩; intro w hSw; (try dsimp only at hSw); go_simp; (try rw [if_neg (by omega)]); try with_reducible rfl)
  try simp only [Act.put, List.setIfInBounds_toArray, List.set_cons_zero, List.set_cons_succ]
  refine wpAnyH_take (i := 2) (oi := ?o4x2) (v := ?v4x2) ?q4x2 (by kernel_rfl) ?f4x2 ?g4x2 ?p4x2 ?u4x2 (by assumption) ?r4x2
  case q4x2 => (rw [List.getElem?_toArray]; rfl)
  case f4x2 => kernel_rfl
  case g4x2 => kernel_rfl
  case p4x2 => exact (fun _ _ _ h => h)
  case u4x2 => (refine Or.inl ⟨by rfl, ?_⟩; intro w hSw; (try dsimp only at hSw); go_simp; (try rw [if_neg (by omega)]); try with_reducible rfl)
  try simp only [Act.put, List.setIfInBounds_toArray, List.set_cons_zero, List.set_cons_succ]
  refine wpAnyH_take (i := 3) (oi := ?o4x3) (v := ?v4x3) ?q4x3 (by kernel_rfl) ?f4x3 ?g4x3 ?p4x3 ?u4x3 (by assumption) ?r4x3
  case q4x3 => (rw [List.getElem?_toArray]; rfl)
  case f4x3 => kernel_rfl
  case g4x3 => kernel_rfl
  case p4x3 => exact (fun _ _ _ h => h)
  case u4x3 => (refine Or.inl ⟨by rfl, ?_⟩; intro w hSw; (try dsimp only at hSw); go_simp; (try rw [if_neg (by omega)]); try with_reducible rfl)
  try simp only [Act.put, List.setIfInBounds_toArray, List.set_cons_zero, List.set_cons_succ]
  refine wpAnyH_take (i := 4) (oi := ?o4x4) (v := ?v4x4) ?q4x4 (by kernel_rfl) ?f4x4 ?g4x4 ?p4x4 ?u4x4 (by assumption) ?r4x4
  case q4x4 => (rw [List.getElem?_toArray]; rfl)
  case f4x4 => kernel_rfl
  case g4x4 => kernel_rfl
  case p4x4 => exact (fun _ _ _ h => h)
  case u4x4 => (refine Or.inl ⟨by rfl, ?_⟩; intro w hSw; (try dsimp only at hSw); go_simp; (try rw [if_neg (by omega)]); try with_reducible rfl)
  try simp only [Act.put, List.setIfInBounds_toArray, List.set_cons_zero, List.set_cons_succ]
  refine wpAnyH_take (i := 5) (oi := ?o4x5) (v := ?v4x5) ?q4x5 (by kernel_rfl) ?f4x5 ?g4x5 ?p4x5 ?u4x5 (by assumption) ?r4x5
  case q4x5 => (rw [List.getElem?_toArray]; rfl)
  case f4x5 => kernel_rfl
  case g4x5 => kernel_rfl
  case p4x5 => exact (fun _ _ _ h => h)
  case u4x5 => (refine Or.inl ⟨by rfl, ?_⟩; intro w hSw; (try dsimp only at hSw); go_simp; (try rw [if_neg (by omega)]); try with_reducible rfl)
  try simp only [Act.put, List.setIfInBounds_toArray, List.set_cons_zero, List.set_cons_succ]
  refine wpAnyH_take (i := 6) (oi := ?o4x6) (v := ?v4x6) ?q4x6 (by kernel_rfl) ?f4x6 ?g4x6 ?p4x6 ?u4x6 (by assumption) ?r4x6
  case q4x6 => (rw [List.getElem?_toArray]; rfl)
  case f4x6 => kernel_rfl
  case g4x6 => kernel_rfl
  case p4x6 => exact (fun _ _ _ h => h)
  case u4x6 => (refine Or.inl ⟨by rfl, ?_⟩; intro w hSw; (try dsimp only at hSw); go_simp; (try rw [if_neg (by omega)]); try with_reducible rfl)
  try simp only [Act.put, List.setIfInBounds_toArray, List.set_cons_zero, List.set_cons_succ]
  refine wpAnyH_take (i := 7) (oi := ?o4x7) (v := ?v4x7) ?q4x7 (by kernel_rfl) ?f4x7 ?g4x7 ?p4x7 ?u4x7 (by assumption) ?r4x7
  case q4x7 => (rw [List.getElem?_toArray]; rfl)
  case f4x7 => kernel_rfl
  case g4x7 => kernel_rfl
  case p4x7 => exact (fun _ _ _ h => h)
  case u4x7 => (refine Or.inl ⟨by rfl, ?_⟩; intro w hSw; (try dsimp only at hSw); go_simp; (try rw [if_neg (by omega)]); try with_reducible rfl)
  try simp only [Act.put, List.setIfInBounds_toArray, List.set_cons_zero, List.set_cons_succ]
  refine em_spine (items := [⟨none, 8, 50⟩]) (E := [⟨13, [], [], 3, 49⟩]) (r0 := 44) (by kernel_rfl) (by kernel_rfl) (by kernel_rfl) (by rfl) ?lb5 (by rfl) (by rfl) ?len5 (fun w' l' C => ⟨(HKm.out.next Hv.out C).cell, (C.mk HM.out).c0⟩) (HC4.out.quiet (Mod.refl _ _).drew) (by kernel_rfl) ?_
  case lb5 => (intro e he hk; simp only [List.mem_cons, List.not_mem_nil, or_false] at he; rcases he with rfl <;> (first | exact absurd rfl hk | exact congrArg Value.string (rfl)))
  case len5 => (first | (simp [takeCode, giveCode, joinCode, awayCode, eachCode, turnGo, waitGo, turnCode] <;> omega) | (simp <;> omega))
  intro U x5 C hU
  have u50 : U 50 = _ := hU 0 _ rfl
  simp only [spTmps, SpI.tmps, List.flatMap_cons, List.flatMap_nil, Option.map_some, Option.map_none, Option.toList_some, Option.toList_none, List.cons_append, List.nil_append, List.append_nil, patch, List.foldl_cons, List.foldl_nil, Act.put, List.setIfInBounds_toArray, List.set_cons_zero, List.set_cons_succ, u50]
  clear u50 hU hHeld
  simp only [List.map_cons, List.map_nil, EmC.ins, List.getD_cons_zero, List.getD_cons_succ, List.getD_nil] at C
  have HC5 := Lib.hid C
  clear C
  have h0 := (HC5.out.mk HM.out).c0
  have h1 := (HC5.out.mk HM.out).c1
  have h2 := (HC5.out.mk HM.out).c2
  have h3 := (HC5.out.mk HM.out).c3
  have hm := (HKm.out.next Hv.out HC5.out).cell
  have hp := (HKp.out.next Hv.out HC5.out).cell
  go_wp2_with fail
  clear h0 h1 h2 h3 hm hp
  have hg := ggive_chain HC5.out (HC5.out.mk HM.out) (by simp [takeCode, giveCode, joinCode, awayCode, eachCode, turnGo, waitGo, turnCode] <;> omega) Hn.out hs
  refine hg.mono ?_
  rintro e x6 ⟨rfl, C⟩
  have HC6 := Lib.hid C
  clear C hg
  have h0 := (HC6.out.mk HM.out).c0
  have h1 := (HC6.out.mk HM.out).c1
  have h2 := (HC6.out.mk HM.out).c2
  have h3 := (HC6.out.mk HM.out).c3
  have hm := (HKm.out.next Hv.out HC6.out).cell
  have hp := (HKp.out.next Hv.out HC6.out).cell
  obtain ⟨v, ec, hv⟩ := HC6.out.made (w := w) (by simp [Value.ownBlock]) Hm.out hb
  have Hv := Lib.hid hv
  clear hv
  go_wp2
  go_ret2
  exact ⟨v, rfl, by rw [← gwait2_eq]; simpa [List.append_assoc] using Hv.out⟩
end Go.Proofs.YtppihkneeolomaaGreatDoor
end
/- package grace, flavour 3: its code, made. -/
section
namespace Go.Proofs.YtppihkneeolomaaGreatDoor
open Go.RowKit Qs Qh
variable {w0 w w1 : World} {b o : Nat} {v0 : Value} {l : List Instr} {br s : ByteArray} {fe jo co : Bool} {u : Value} {c : Nat}
set_option maxRecDepth 4000 in
set_option maxHeartbeats 8000000 in
theorem genter3_ok (s : ByteArray) (w : World) (hn : nameB s.data.toList = true) (hs : s.size ≤ 4) :
    Calls Tryz.prog 75 #[.int .i64 3, .string s] w fun e w' => ∃ v, e = .returned (.tuple #[v, .nilIface]) ∧ Made (preC s.data.toList gc30) w v w' := by
  have Hn := Lib.hid hn
  clear hn
  go_enter Tryz.func75, Tryz.ntmps75
  go_wp2_with fail
  refine (begin3_ok s w Hn.out hs).mono ?_
  rintro e x0 ⟨b, rfl, hm, hb, E, M⟩
  have h3 := M.c3
  have Hm := Lib.hid hm
  clear hm hb E M
  go_wp2
  go_ret2
  exact ⟨_, rfl, InsRow.nil _ _, Hm.out.toBelow, by simp [Value.ownBlock]⟩
set_option maxRecDepth 4000 in
set_option maxHeartbeats 8000000 in
theorem gleave3_ok (s : ByteArray) (w : World) (hn : nameB s.data.toList = true) (hs : s.size ≤ 4) :
    Calls Tryz.prog 76 #[.int .i64 3, .string s] w fun e w' => ∃ v, e = .returned (.tuple #[v, .nilIface]) ∧ Made (preC s.data.toList gc31) w v w' := by
  have Hn := Lib.hid hn
  clear hn
  go_enter Tryz.func76, Tryz.ntmps76
  go_wp2_with fail
  refine (begin3_ok s w Hn.out hs).mono ?_
  rintro e x0 ⟨b, rfl, hm, hb, E, M⟩
  have h3 := M.c3
  have Hm := Lib.hid hm
  clear hm hb E M
  go_wp2
  go_ret2
  exact ⟨_, rfl, InsRow.nil _ _, Hm.out.toBelow, by simp [Value.ownBlock]⟩
set_option maxRecDepth 4000 in
set_option maxHeartbeats 8000000 in
theorem grest3_ok (s : ByteArray) (w : World) (hn : nameB s.data.toList = true) (hs : s.size ≤ 4) :
    Calls Tryz.prog 85 #[.int .i64 3, .string s] w fun e w' => ∃ v, e = .returned (.tuple #[v, .nilIface]) ∧ Made (preC s.data.toList gc32) w v w' := by
  have Hn := Lib.hid hn
  clear hn
  go_enter Tryz.func85, Tryz.ntmps85
  go_wp2_with fail
  refine (begin3_ok s w Hn.out hs).mono ?_
  rintro e x0 ⟨b, rfl, hm, hb, E, M⟩
  have HC := Lib.hid (Chain.start E)
  have HM := Lib.hid M
  have Hm := Lib.hid hm
  clear hm E M
  have h0 := (HC.out.mk HM.out).c0
  have h1 := (HC.out.mk HM.out).c1
  have h2 := (HC.out.mk HM.out).c2
  have h3 := (HC.out.mk HM.out).c3
  go_wp2_with fail
  refine (op3_chain (HC.out.quiet ((Mod.refl _ _).alloc _)) (by first | omega | simp) 6 _ rfl x0.heap.size 0 7 0 3 (by simp) (by simp) (by simp) (by simp)).mono ?_
  clear h0 h1 h2 h3
  rintro e x1 ⟨rfl, C⟩
  have HC1 := Lib.hid C
  clear C
  have h0 := (HC1.out.mk HM.out).c0
  have h1 := (HC1.out.mk HM.out).c1
  have h2 := (HC1.out.mk HM.out).c2
  have h3 := (HC1.out.mk HM.out).c3
  go_wp2_with fail
  refine (op3_chain (HC1.out.quiet ((Mod.refl _ _).alloc _)) (by simp [takeCode, giveCode, joinCode, awayCode, eachCode, turnGo, waitGo, turnCode] <;> omega) 7 _ rfl x1.heap.size 6 0 0 3 (by simp) (by simp) (by simp) (by simp)).mono ?_
  clear h0 h1 h2 h3
  rintro e x2 ⟨rfl, C⟩
  have HC2 := Lib.hid C
  clear C
  have h0 := (HC2.out.mk HM.out).c0
  have h1 := (HC2.out.mk HM.out).c1
  have h2 := (HC2.out.mk HM.out).c2
  have h3 := (HC2.out.mk HM.out).c3
  go_wp2_with fail
  refine (op0_chain HC2.out (by simp [takeCode, giveCode, joinCode, awayCode, eachCode, turnGo, waitGo, turnCode] <;> omega) 12 _ rfl).mono ?_
  clear h0 h1 h2 h3
  rintro e x3 ⟨rfl, C⟩
  have HC3 := Lib.hid C
  clear C
  obtain ⟨v, ec, hv⟩ := HC3.out.made (w := w) (by simp [Value.ownBlock]) Hm.out hb
  have Hv := Lib.hid hv
  clear hv
  go_wp2
  go_ret2
  exact ⟨v, rfl, by rw [← grest3_eq]; simpa [List.append_assoc] using Hv.out⟩
set_option maxRecDepth 4000 in
set_option maxHeartbeats 8000000 in
theorem ggone3_ok (s : ByteArray) (w : World) (hn : nameB s.data.toList = true) (hs : s.size ≤ 4) :
    Calls Tryz.prog 48 #[.int .i64 3, .string s] w fun e w' => ∃ v, e = .returned (.tuple #[v, .nilIface]) ∧ Made (preC s.data.toList gc33) w v w' := by
  have Hn := Lib.hid hn
  clear hn
  go_enter Tryz.func48, Tryz.ntmps48
  go_wp2_with fail
  refine (begin3_ok s w Hn.out hs).mono ?_
  rintro e x0 ⟨b, rfl, hm, hb, E, M⟩
  have HC := Lib.hid (Chain.start E)
  have HM := Lib.hid M
  have Hm := Lib.hid hm
  clear hm E M
  have h0 := (HC.out.mk HM.out).c0
  have h1 := (HC.out.mk HM.out).c1
  have h2 := (HC.out.mk HM.out).c2
  have h3 := (HC.out.mk HM.out).c3
  go_wp2_with fail
  clear h0 h1 h2 h3
  have hg := gaway_chain HC.out (by first | omega | simp)
  refine hg.mono ?_
  rintro e x1 ⟨rfl, C⟩
  have HC1 := Lib.hid C
  clear C hg
  obtain ⟨v, ec, hv⟩ := HC1.out.made (w := w) (by simp [Value.ownBlock]) Hm.out hb
  have Hv := Lib.hid hv
  clear hv
  go_wp2
  go_ret2
  exact ⟨v, rfl, by rw [← ggone3_eq]; simpa [List.append_assoc] using Hv.out⟩
set_option maxRecDepth 4000 in
set_option maxHeartbeats 8000000 in
theorem gwait3_ok (s : ByteArray) (w : World) (hn : nameB s.data.toList = true) (hs : s.size ≤ 4) :
    Calls Tryz.prog 86 #[.int .i64 3, .string s] w fun e w' => ∃ v, e = .returned (.tuple #[v, .nilIface]) ∧ Made (preC s.data.toList gc34) w v w' := by
  have Hn := Lib.hid hn
  clear hn
  go_enter Tryz.func86, Tryz.ntmps86
  go_wp2_with fail
  refine (begin3_ok s _ Hn.out hs).mono ?_
  rintro e w1 ⟨b, rfl, hm, hb0, E, M⟩
  have hsw := hm.size
  have hlb := E.lt
  have hb1 : w.heap.size < b := by simp at hb0; omega
  have hp0 : w1.cell? ⟨w.heap.size, 0, none⟩ = some (.string s) := hm.cell (by simp) (fun e => e)
  have hq : Mod noF w1 (w1.alloc (.cells #[.pointer (some ⟨b, 0, none⟩)] 135)) := (Mod.refl _ _).alloc _
  have E1 := E.quiet hq
  have HC := Lib.hid (Chain.start E1)
  have HM := Lib.hid (M.quiet hq)
  have Hm := Lib.hid ((((Mod.refl noF w).alloc _).trans0 hm).trans0 hq)
  have Hv := Lib.hid E1.cell
  have hcp : w.heap.size < w1.heap.size := by simp at hsw; omega
  have hrow : ∀ (c : Nat) v, (w1.alloc (.cells #[.pointer (some ⟨b, 0, none⟩)] 135)).cell? ⟨b, 4, none⟩ = some v → v.ownBlock ≠ some c := fun c v h e => by
    rw [E1.cell] at h; cases h; cases e
  have HKm := Lib.hid (⟨by simp, by simp, by omega, hrow _⟩ : Cap (w1.alloc (.cells #[.pointer (some ⟨b, 0, none⟩)] 135)) b w1.heap.size (.pointer (some ⟨b, 0, none⟩)))
  have HKp := Lib.hid (⟨hq.cell hp0 (fun e => e), by simp; omega, by omega, hrow _⟩ : Cap (w1.alloc (.cells #[.pointer (some ⟨b, 0, none⟩)] 135)) b w.heap.size (.string s))
  have hb : w.heap.size ≤ b := by omega
  clear hm E M E1 hq hp0 hrow hsw hb0 hb1
  have h0 := (HC.out.mk HM.out).c0
  have h1 := (HC.out.mk HM.out).c1
  have h2 := (HC.out.mk HM.out).c2
  have h3 := (HC.out.mk HM.out).c3
  have hm := (HKm.out.next Hv.out HC.out).cell
  have hp := (HKp.out.next Hv.out HC.out).cell
  go_wp2_with fail
  clear h0 h1 h2 h3 hm hp
  have hg := gaway_chain HC.out (by first | omega | simp)
  refine hg.mono ?_
  rintro e x1 ⟨rfl, C⟩
  have HC1 := Lib.hid C
  clear C hg
  have h0 := (HC1.out.mk HM.out).c0
  have h1 := (HC1.out.mk HM.out).c1
  have h2 := (HC1.out.mk HM.out).c2
  have h3 := (HC1.out.mk HM.out).c3
  have hm := (HKm.out.next Hv.out HC1.out).cell
  have hp := (HKp.out.next Hv.out HC1.out).cell
  go_wp2_with fail
  clear h0 h1 h2 h3 hm hp
  have hg := gtake_chain HC1.out (HC1.out.mk HM.out) (by simp [takeCode, giveCode, joinCode, awayCode, eachCode, turnGo, waitGo, turnCode] <;> omega) Hn.out hs
  refine hg.mono ?_
  rintro e x2 ⟨rfl, C⟩
  have HC2 := Lib.hid C
  clear C hg
  have h0 := (HC2.out.mk HM.out).c0
  have h1 := (HC2.out.mk HM.out).c1
  have h2 := (HC2.out.mk HM.out).c2
  have h3 := (HC2.out.mk HM.out).c3
  have hm := (HKm.out.next Hv.out HC2.out).cell
  have hp := (HKp.out.next Hv.out HC2.out).cell
  go_wp2_with fail
  refine (op3_chain (HC2.out.quiet ((Mod.refl _ _).alloc _)) (by simp [takeCode, giveCode, joinCode, awayCode, eachCode, turnGo, waitGo, turnCode] <;> omega) 6 _ rfl x2.heap.size 0 7 0 3 (by simp) (by simp) (by simp) (by simp)).mono ?_
  clear h0 h1 h2 h3 hm hp
  rintro e x3 ⟨rfl, C⟩
  have HC3 := Lib.hid C
  clear C
  have h0 := (HC3.out.mk HM.out).c0
  have h1 := (HC3.out.mk HM.out).c1
  have h2 := (HC3.out.mk HM.out).c2
  have h3 := (HC3.out.mk HM.out).c3
  have hm := (HKm.out.next Hv.out HC3.out).cell
  have hp := (HKp.out.next Hv.out HC3.out).cell
  go_wp2_with fail
  refine (op2_chain (HC3.out.quiet ((Mod.refl _ _).alloc _)) (by simp [takeCode, giveCode, joinCode, awayCode, eachCode, turnGo, waitGo, turnCode] <;> omega) 0 _ rfl x3.heap.size 1 2 2 (by simp) (by simp) (by simp)).mono ?_
  clear h0 h1 h2 h3 hm hp
  rintro e x4 ⟨rfl, C⟩
  have HC4 := Lib.hid C
  clear C
  have h0 := (HC4.out.mk HM.out).c0
  have h1 := (HC4.out.mk HM.out).c1
  have h2 := (HC4.out.mk HM.out).c2
  have h3 := (HC4.out.mk HM.out).c3
  have hm := (HKm.out.next Hv.out HC4.out).cell
  have hp := (HKp.out.next Hv.out HC4.out).cell
  go_wp2_with fail
  refine (op3_chain (HC4.out.quiet ((Mod.refl _ _).alloc _)) (by simp [takeCode, giveCode, joinCode, awayCode, eachCode, turnGo, waitGo, turnCode] <;> omega) 2 _ rfl x4.heap.size 0 0 1 3 (by simp) (by simp) (by simp) (by simp)).mono ?_
  clear h0 h1 h2 h3 hm hp
  rintro e x5 ⟨rfl, C⟩
  have HC5 := Lib.hid C
  clear C
  have h0 := (HC5.out.mk HM.out).c0
  have h1 := (HC5.out.mk HM.out).c1
  have h2 := (HC5.out.mk HM.out).c2
  have h3 := (HC5.out.mk HM.out).c3
  have hm := (HKm.out.next Hv.out HC5.out).cell
  have hp := (HKp.out.next Hv.out HC5.out).cell
  go_wp2_with fail
  refine (op3_chain (HC5.out.quiet ((Mod.refl _ _).alloc _)) (by simp [takeCode, giveCode, joinCode, awayCode, eachCode, turnGo, waitGo, turnCode] <;> omega) 7 _ rfl x5.heap.size 7 0 0 3 (by simp) (by simp) (by simp) (by simp)).mono ?_
  clear h0 h1 h2 h3 hm hp
  rintro e x6 ⟨rfl, C⟩
  have HC6 := Lib.hid C
  clear C
  have h0 := (HC6.out.mk HM.out).c0
  have h1 := (HC6.out.mk HM.out).c1
  have h2 := (HC6.out.mk HM.out).c2
  have h3 := (HC6.out.mk HM.out).c3
  have hm := (HKm.out.next Hv.out HC6.out).cell
  have hp := (HKp.out.next Hv.out HC6.out).cell
  go_wp2_with fail
  refine (op0_chain HC6.out (by simp [takeCode, giveCode, joinCode, awayCode, eachCode, turnGo, waitGo, turnCode] <;> omega) 12 _ rfl).mono ?_
  clear h0 h1 h2 h3 hm hp
  rintro e x7 ⟨rfl, C⟩
  have HC7 := Lib.hid C
  clear C
  have h0 := (HC7.out.mk HM.out).c0
  have h1 := (HC7.out.mk HM.out).c1
  have h2 := (HC7.out.mk HM.out).c2
  have h3 := (HC7.out.mk HM.out).c3
  have hm := (HKm.out.next Hv.out HC7.out).cell
  have hp := (HKp.out.next Hv.out HC7.out).cell
  go_wp2_with fail
  clear h0 h1 h2 h3 hm hp
  have hg := eachWait_chain (s ++ ⟨#[46, 120]⟩) (size_plus2 s _ _ hs) HC7.out (HKm.out.next Hv.out HC7.out) (HKp.out.next Hv.out HC7.out) (by omega) (by simp [takeCode, giveCode, joinCode, awayCode, eachCode, turnGo, waitGo, turnCode] <;> omega)
  refine hg.mono ?_
  rintro e x8 ⟨rfl, C⟩
  have HC8 := Lib.hid C
  clear C hg
  have h0 := (HC8.out.mk HM.out).c0
  have h1 := (HC8.out.mk HM.out).c1
  have h2 := (HC8.out.mk HM.out).c2
  have h3 := (HC8.out.mk HM.out).c3
  have hm := (HKm.out.next Hv.out HC8.out).cell
  have hp := (HKp.out.next Hv.out HC8.out).cell
  go_wp2_with fail
  clear h0 h1 h2 h3 hm hp
  have hg := ggive_chain HC8.out (HC8.out.mk HM.out) (by simp [takeCode, giveCode, joinCode, awayCode, eachCode, turnGo, waitGo, turnCode] <;> omega) Hn.out hs
  refine hg.mono ?_
  rintro e x9 ⟨rfl, C⟩
  have HC9 := Lib.hid C
  clear C hg
  have h0 := (HC9.out.mk HM.out).c0
  have h1 := (HC9.out.mk HM.out).c1
  have h2 := (HC9.out.mk HM.out).c2
  have h3 := (HC9.out.mk HM.out).c3
  have hm := (HKm.out.next Hv.out HC9.out).cell
  have hp := (HKp.out.next Hv.out HC9.out).cell
  go_wp2_with fail
  refine (op3_chain (HC9.out.quiet ((Mod.refl _ _).alloc _)) (by simp [takeCode, giveCode, joinCode, awayCode, eachCode, turnGo, waitGo, turnCode] <;> omega) 6 _ rfl x9.heap.size 0 7 0 3 (by simp) (by simp) (by simp) (by simp)).mono ?_
  clear h0 h1 h2 h3 hm hp
  rintro e x10 ⟨rfl, C⟩
  have HC10 := Lib.hid C
  clear C
  have h0 := (HC10.out.mk HM.out).c0
  have h1 := (HC10.out.mk HM.out).c1
  have h2 := (HC10.out.mk HM.out).c2
  have h3 := (HC10.out.mk HM.out).c3
  have hm := (HKm.out.next Hv.out HC10.out).cell
  have hp := (HKp.out.next Hv.out HC10.out).cell
  go_wp2_with fail
  refine (op3_chain (HC10.out.quiet ((Mod.refl _ _).alloc _)) (by simp [takeCode, giveCode, joinCode, awayCode, eachCode, turnGo, waitGo, turnCode] <;> omega) 7 _ rfl x10.heap.size 6 0 0 3 (by simp) (by simp) (by simp) (by simp)).mono ?_
  clear h0 h1 h2 h3 hm hp
  rintro e x11 ⟨rfl, C⟩
  have HC11 := Lib.hid C
  clear C
  have h0 := (HC11.out.mk HM.out).c0
  have h1 := (HC11.out.mk HM.out).c1
  have h2 := (HC11.out.mk HM.out).c2
  have h3 := (HC11.out.mk HM.out).c3
  have hm := (HKm.out.next Hv.out HC11.out).cell
  have hp := (HKp.out.next Hv.out HC11.out).cell
  go_wp2_with fail
  refine (op0_chain HC11.out (by simp [takeCode, giveCode, joinCode, awayCode, eachCode, turnGo, waitGo, turnCode] <;> omega) 12 _ rfl).mono ?_
  clear h0 h1 h2 h3 hm hp
  rintro e x12 ⟨rfl, C⟩
  have HC12 := Lib.hid C
  clear C
  have h0 := (HC12.out.mk HM.out).c0
  have h1 := (HC12.out.mk HM.out).c1
  have h2 := (HC12.out.mk HM.out).c2
  have h3 := (HC12.out.mk HM.out).c3
  have hm := (HKm.out.next Hv.out HC12.out).cell
  have hp := (HKp.out.next Hv.out HC12.out).cell
  obtain ⟨v, ec, hv⟩ := HC12.out.made (w := w) (by simp [Value.ownBlock]) Hm.out hb
  have Hv := Lib.hid hv
  clear hv
  go_wp2
  go_ret2
  exact ⟨v, rfl, by rw [← gwait3_eq]; simpa [List.append_assoc] using Hv.out⟩
end Go.Proofs.YtppihkneeolomaaGreatDoor
end
/- package grace, flavour 4: its code, made. -/
section
namespace Go.Proofs.YtppihkneeolomaaGreatDoor
open Go.RowKit Qs Qh
variable {w0 w w1 : World} {b o : Nat} {v0 : Value} {l : List Instr} {br s : ByteArray} {fe jo co : Bool} {u : Value} {c : Nat}
set_option maxRecDepth 4000 in
set_option maxHeartbeats 8000000 in
theorem genter4_ok (s : ByteArray) (w : World) (hn : nameB s.data.toList = true) (hs : s.size ≤ 4) :
    Calls Tryz.prog 75 #[.int .i64 4, .string s] w fun e w' => ∃ v, e = .returned (.tuple #[v, .nilIface]) ∧ Made (preC s.data.toList gc40) w v w' := by
  have Hn := Lib.hid hn
  clear hn
  go_enter Tryz.func75, Tryz.ntmps75
  go_wp2_with fail
  refine (begin4_ok s w Hn.out hs).mono ?_
  rintro e x0 ⟨b, rfl, hm, hb, E, M⟩
  have HC := Lib.hid (Chain.start E)
  have HM := Lib.hid M
  have Hm := Lib.hid hm
  clear hm E M
  have h0 := (HC.out.mk HM.out).c0
  have h1 := (HC.out.mk HM.out).c1
  have h2 := (HC.out.mk HM.out).c2
  have h3 := (HC.out.mk HM.out).c3
  go_wp2_with fail
  clear h0 h1 h2 h3
  have hg := gjoin_chain HC.out (HC.out.mk HM.out) (by first | omega | simp) Hn.out hs
  refine hg.mono ?_
  rintro e x1 ⟨rfl, C⟩
  have HC1 := Lib.hid C
  clear C hg
  have h0 := (HC1.out.mk HM.out).c0
  have h1 := (HC1.out.mk HM.out).c1
  have h2 := (HC1.out.mk HM.out).c2
  have h3 := (HC1.out.mk HM.out).c3
  go_wp2_with fail
  refine (op3_chain (HC1.out.quiet ((Mod.refl _ _).alloc _)) (by simp [takeCode, giveCode, joinCode, awayCode, eachCode, turnGo, waitGo, turnCode] <;> omega) 6 _ rfl x1.heap.size 0 6 0 3 (by simp) (by simp) (by simp) (by simp)).mono ?_
  clear h0 h1 h2 h3
  rintro e x2 ⟨rfl, C⟩
  have HC2 := Lib.hid C
  clear C
  have h0 := (HC2.out.mk HM.out).c0
  have h1 := (HC2.out.mk HM.out).c1
  have h2 := (HC2.out.mk HM.out).c2
  have h3 := (HC2.out.mk HM.out).c3
  go_wp2_with fail
  refine (op2_chain (HC2.out.quiet ((Mod.refl _ _).alloc _)) (by simp [takeCode, giveCode, joinCode, awayCode, eachCode, turnGo, waitGo, turnCode] <;> omega) 0 _ rfl x2.heap.size 1 255 2 (by simp) (by simp) (by simp)).mono ?_
  clear h0 h1 h2 h3
  rintro e x3 ⟨rfl, C⟩
  have HC3 := Lib.hid C
  clear C
  have h0 := (HC3.out.mk HM.out).c0
  have h1 := (HC3.out.mk HM.out).c1
  have h2 := (HC3.out.mk HM.out).c2
  have h3 := (HC3.out.mk HM.out).c3
  go_wp2_with fail
  refine (op3_chain (HC3.out.quiet ((Mod.refl _ _).alloc _)) (by simp [takeCode, giveCode, joinCode, awayCode, eachCode, turnGo, waitGo, turnCode] <;> omega) 4 _ rfl x3.heap.size 1 0 1 3 (by simp) (by simp) (by simp) (by simp)).mono ?_
  clear h0 h1 h2 h3
  rintro e x4 ⟨rfl, C⟩
  have HC4 := Lib.hid C
  clear C
  have h0 := (HC4.out.mk HM.out).c0
  have h1 := (HC4.out.mk HM.out).c1
  have h2 := (HC4.out.mk HM.out).c2
  have h3 := (HC4.out.mk HM.out).c3
  go_wp2_with fail
  refine (to1_chain (HC4.out.quiet ((Mod.refl _ _).alloc _)) (by simp [takeCode, giveCode, joinCode, awayCode, eachCode, turnGo, waitGo, turnCode] <;> omega) 14 _ rfl (s.data.toList ++ [46, 97]) _ (bytes_cat s _) x4.heap.size 1 1 (by simp) (by simp)).mono ?_
  clear h0 h1 h2 h3
  rintro e x5 ⟨rfl, C⟩
  have HC5 := Lib.hid C
  clear C
  have h0 := (HC5.out.mk HM.out).c0
  have h1 := (HC5.out.mk HM.out).c1
  have h2 := (HC5.out.mk HM.out).c2
  have h3 := (HC5.out.mk HM.out).c3
  go_wp2_with fail
  refine (op2_chain (HC5.out.quiet ((Mod.refl _ _).alloc _)) (by simp [takeCode, giveCode, joinCode, awayCode, eachCode, turnGo, waitGo, turnCode] <;> omega) 0 _ rfl x5.heap.size 1 1 2 (by simp) (by simp) (by simp)).mono ?_
  clear h0 h1 h2 h3
  rintro e x6 ⟨rfl, C⟩
  have HC6 := Lib.hid C
  clear C
  have h0 := (HC6.out.mk HM.out).c0
  have h1 := (HC6.out.mk HM.out).c1
  have h2 := (HC6.out.mk HM.out).c2
  have h3 := (HC6.out.mk HM.out).c3
  go_wp2_with fail
  refine (op3_chain (HC6.out.quiet ((Mod.refl _ _).alloc _)) (by simp [takeCode, giveCode, joinCode, awayCode, eachCode, turnGo, waitGo, turnCode] <;> omega) 2 _ rfl x6.heap.size 0 0 1 3 (by simp) (by simp) (by simp) (by simp)).mono ?_
  clear h0 h1 h2 h3
  rintro e x7 ⟨rfl, C⟩
  have HC7 := Lib.hid C
  clear C
  have h0 := (HC7.out.mk HM.out).c0
  have h1 := (HC7.out.mk HM.out).c1
  have h2 := (HC7.out.mk HM.out).c2
  have h3 := (HC7.out.mk HM.out).c3
  go_wp2_with fail
  refine (op3_chain (HC7.out.quiet ((Mod.refl _ _).alloc _)) (by simp [takeCode, giveCode, joinCode, awayCode, eachCode, turnGo, waitGo, turnCode] <;> omega) 7 _ rfl x7.heap.size 6 0 0 3 (by simp) (by simp) (by simp) (by simp)).mono ?_
  clear h0 h1 h2 h3
  rintro e x8 ⟨rfl, C⟩
  have HC8 := Lib.hid C
  clear C
  have h0 := (HC8.out.mk HM.out).c0
  have h1 := (HC8.out.mk HM.out).c1
  have h2 := (HC8.out.mk HM.out).c2
  have h3 := (HC8.out.mk HM.out).c3
  go_wp2_with fail
  refine (to0_chain HC8.out (by simp [takeCode, giveCode, joinCode, awayCode, eachCode, turnGo, waitGo, turnCode] <;> omega) 16 _ rfl (s.data.toList ++ [46, 98]) _ (bytes_cat s _)).mono ?_
  clear h0 h1 h2 h3
  rintro e x9 ⟨rfl, C⟩
  have HC9 := Lib.hid C
  clear C
  have h0 := (HC9.out.mk HM.out).c0
  have h1 := (HC9.out.mk HM.out).c1
  have h2 := (HC9.out.mk HM.out).c2
  have h3 := (HC9.out.mk HM.out).c3
  go_wp2_with fail
  refine (label_chain HC9.out (by simp [takeCode, giveCode, joinCode, awayCode, eachCode, turnGo, waitGo, turnCode] <;> omega) (s.data.toList ++ [46, 97]) _ (bytes_cat s _)).mono ?_
  clear h0 h1 h2 h3
  rintro e x10 ⟨rfl, C⟩
  have HC10 := Lib.hid C
  clear C
  have h0 := (HC10.out.mk HM.out).c0
  have h1 := (HC10.out.mk HM.out).c1
  have h2 := (HC10.out.mk HM.out).c2
  have h3 := (HC10.out.mk HM.out).c3
  go_wp2_with fail
  refine (op3_chain (HC10.out.quiet ((Mod.refl _ _).alloc _)) (by simp [takeCode, giveCode, joinCode, awayCode, eachCode, turnGo, waitGo, turnCode] <;> omega) 6 _ rfl x10.heap.size 0 7 0 3 (by simp) (by simp) (by simp) (by simp)).mono ?_
  clear h0 h1 h2 h3
  rintro e x11 ⟨rfl, C⟩
  have HC11 := Lib.hid C
  clear C
  have h0 := (HC11.out.mk HM.out).c0
  have h1 := (HC11.out.mk HM.out).c1
  have h2 := (HC11.out.mk HM.out).c2
  have h3 := (HC11.out.mk HM.out).c3
  go_wp2_with fail
  refine (op3_chain (HC11.out.quiet ((Mod.refl _ _).alloc _)) (by simp [takeCode, giveCode, joinCode, awayCode, eachCode, turnGo, waitGo, turnCode] <;> omega) 7 _ rfl x11.heap.size 6 0 0 3 (by simp) (by simp) (by simp) (by simp)).mono ?_
  clear h0 h1 h2 h3
  rintro e x12 ⟨rfl, C⟩
  have HC12 := Lib.hid C
  clear C
  have h0 := (HC12.out.mk HM.out).c0
  have h1 := (HC12.out.mk HM.out).c1
  have h2 := (HC12.out.mk HM.out).c2
  have h3 := (HC12.out.mk HM.out).c3
  go_wp2_with fail
  refine (op0_chain HC12.out (by simp [takeCode, giveCode, joinCode, awayCode, eachCode, turnGo, waitGo, turnCode] <;> omega) 12 _ rfl).mono ?_
  clear h0 h1 h2 h3
  rintro e x13 ⟨rfl, C⟩
  have HC13 := Lib.hid C
  clear C
  have h0 := (HC13.out.mk HM.out).c0
  have h1 := (HC13.out.mk HM.out).c1
  have h2 := (HC13.out.mk HM.out).c2
  have h3 := (HC13.out.mk HM.out).c3
  go_wp2_with fail
  refine (label_chain HC13.out (by simp [takeCode, giveCode, joinCode, awayCode, eachCode, turnGo, waitGo, turnCode] <;> omega) (s.data.toList ++ [46, 98]) _ (bytes_cat s _)).mono ?_
  clear h0 h1 h2 h3
  rintro e x14 ⟨rfl, C⟩
  have HC14 := Lib.hid C
  clear C
  obtain ⟨v, ec, hv⟩ := HC14.out.made (w := w) (by simp [Value.ownBlock]) Hm.out hb
  have Hv := Lib.hid hv
  clear hv
  go_wp2
  go_ret2
  exact ⟨v, rfl, by rw [← genter4_eq]; simpa [List.append_assoc] using Hv.out⟩
set_option maxRecDepth 4000 in
set_option maxHeartbeats 8000000 in
theorem gleave4_ok (s : ByteArray) (w : World) (hn : nameB s.data.toList = true) (hs : s.size ≤ 4) :
    Calls Tryz.prog 76 #[.int .i64 4, .string s] w fun e w' => ∃ v, e = .returned (.tuple #[v, .nilIface]) ∧ Made (preC s.data.toList gc41) w v w' := by
  have Hn := Lib.hid hn
  clear hn
  go_enter Tryz.func76, Tryz.ntmps76
  go_wp2_with fail
  refine (begin4_ok s w Hn.out hs).mono ?_
  rintro e x0 ⟨b, rfl, hm, hb, E, M⟩
  have HC := Lib.hid (Chain.start E)
  have HM := Lib.hid M
  have Hm := Lib.hid hm
  clear hm E M
  have h0 := (HC.out.mk HM.out).c0
  have h1 := (HC.out.mk HM.out).c1
  have h2 := (HC.out.mk HM.out).c2
  have h3 := (HC.out.mk HM.out).c3
  go_wp2_with fail
  refine (op0_chain HC.out (by first | omega | simp) 12 _ rfl).mono ?_
  clear h0 h1 h2 h3
  rintro e x1 ⟨rfl, C⟩
  have HC1 := Lib.hid C
  clear C
  have h0 := (HC1.out.mk HM.out).c0
  have h1 := (HC1.out.mk HM.out).c1
  have h2 := (HC1.out.mk HM.out).c2
  have h3 := (HC1.out.mk HM.out).c3
  go_wp2_with fail
  refine (op3_chain (HC1.out.quiet ((Mod.refl _ _).alloc _)) (by simp [takeCode, giveCode, joinCode, awayCode, eachCode, turnGo, waitGo, turnCode] <;> omega) 6 _ rfl x1.heap.size 0 6 0 3 (by simp) (by simp) (by simp) (by simp)).mono ?_
  clear h0 h1 h2 h3
  rintro e x2 ⟨rfl, C⟩
  have HC2 := Lib.hid C
  clear C
  have h0 := (HC2.out.mk HM.out).c0
  have h1 := (HC2.out.mk HM.out).c1
  have h2 := (HC2.out.mk HM.out).c2
  have h3 := (HC2.out.mk HM.out).c3
  go_wp2_with fail
  refine (op2_chain (HC2.out.quiet ((Mod.refl _ _).alloc _)) (by simp [takeCode, giveCode, joinCode, awayCode, eachCode, turnGo, waitGo, turnCode] <;> omega) 0 _ rfl x2.heap.size 1 1 2 (by simp) (by simp) (by simp)).mono ?_
  clear h0 h1 h2 h3
  rintro e x3 ⟨rfl, C⟩
  have HC3 := Lib.hid C
  clear C
  have h0 := (HC3.out.mk HM.out).c0
  have h1 := (HC3.out.mk HM.out).c1
  have h2 := (HC3.out.mk HM.out).c2
  have h3 := (HC3.out.mk HM.out).c3
  go_wp2_with fail
  refine (op3_chain (HC3.out.quiet ((Mod.refl _ _).alloc _)) (by simp [takeCode, giveCode, joinCode, awayCode, eachCode, turnGo, waitGo, turnCode] <;> omega) 3 _ rfl x3.heap.size 0 0 1 3 (by simp) (by simp) (by simp) (by simp)).mono ?_
  clear h0 h1 h2 h3
  rintro e x4 ⟨rfl, C⟩
  have HC4 := Lib.hid C
  clear C
  have h0 := (HC4.out.mk HM.out).c0
  have h1 := (HC4.out.mk HM.out).c1
  have h2 := (HC4.out.mk HM.out).c2
  have h3 := (HC4.out.mk HM.out).c3
  go_wp2_with fail
  refine (op3_chain (HC4.out.quiet ((Mod.refl _ _).alloc _)) (by simp [takeCode, giveCode, joinCode, awayCode, eachCode, turnGo, waitGo, turnCode] <;> omega) 7 _ rfl x4.heap.size 6 0 0 3 (by simp) (by simp) (by simp) (by simp)).mono ?_
  clear h0 h1 h2 h3
  rintro e x5 ⟨rfl, C⟩
  have HC5 := Lib.hid C
  clear C
  obtain ⟨v, ec, hv⟩ := HC5.out.made (w := w) (by simp [Value.ownBlock]) Hm.out hb
  have Hv := Lib.hid hv
  clear hv
  go_wp2
  go_ret2
  exact ⟨v, rfl, by rw [← gleave4_eq]; simpa [List.append_assoc] using Hv.out⟩
set_option maxRecDepth 4000 in
set_option maxHeartbeats 8000000 in
theorem grest4_ok (s : ByteArray) (w : World) (hn : nameB s.data.toList = true) (hs : s.size ≤ 4) :
    Calls Tryz.prog 85 #[.int .i64 4, .string s] w fun e w' => ∃ v, e = .returned (.tuple #[v, .nilIface]) ∧ Made (preC s.data.toList gc42) w v w' := by
  have Hn := Lib.hid hn
  clear hn
  go_enter Tryz.func85, Tryz.ntmps85
  go_wp2_with fail
  refine (begin4_ok s w Hn.out hs).mono ?_
  rintro e x0 ⟨b, rfl, hm, hb, E, M⟩
  have h3 := M.c3
  have Hm := Lib.hid hm
  clear hm hb E M
  go_wp2
  go_ret2
  exact ⟨_, rfl, InsRow.nil _ _, Hm.out.toBelow, by simp [Value.ownBlock]⟩
set_option maxRecDepth 4000 in
set_option maxHeartbeats 8000000 in
theorem ggone4_ok (s : ByteArray) (w : World) (hn : nameB s.data.toList = true) (hs : s.size ≤ 4) :
    Calls Tryz.prog 48 #[.int .i64 4, .string s] w fun e w' => ∃ v, e = .returned (.tuple #[v, .nilIface]) ∧ Made (preC s.data.toList gc43) w v w' := by
  have Hn := Lib.hid hn
  clear hn
  go_enter Tryz.func48, Tryz.ntmps48
  go_wp2_with fail
  refine (begin4_ok s w Hn.out hs).mono ?_
  rintro e x0 ⟨b, rfl, hm, hb, E, M⟩
  have h3 := M.c3
  have Hm := Lib.hid hm
  clear hm hb E M
  go_wp2
  go_ret2
  exact ⟨_, rfl, InsRow.nil _ _, Hm.out.toBelow, by simp [Value.ownBlock]⟩
set_option maxRecDepth 4000 in
set_option maxHeartbeats 8000000 in
theorem gwait4_ok (s : ByteArray) (w : World) (hn : nameB s.data.toList = true) (hs : s.size ≤ 4) :
    Calls Tryz.prog 86 #[.int .i64 4, .string s] w fun e w' => ∃ v, e = .returned (.tuple #[v, .nilIface]) ∧ Made (preC s.data.toList gc44) w v w' := by
  have Hn := Lib.hid hn
  clear hn
  go_enter Tryz.func86, Tryz.ntmps86
  go_wp2_with fail
  refine (begin4_ok s _ Hn.out hs).mono ?_
  rintro e w1 ⟨b, rfl, hm, hb0, E, M⟩
  have hsw := hm.size
  have hlb := E.lt
  have hb1 : w.heap.size < b := by simp at hb0; omega
  have hp0 : w1.cell? ⟨w.heap.size, 0, none⟩ = some (.string s) := hm.cell (by simp) (fun e => e)
  have hq : Mod noF w1 (w1.alloc (.cells #[.pointer (some ⟨b, 0, none⟩)] 135)) := (Mod.refl _ _).alloc _
  have E1 := E.quiet hq
  have HC := Lib.hid (Chain.start E1)
  have HM := Lib.hid (M.quiet hq)
  have Hm := Lib.hid ((((Mod.refl noF w).alloc _).trans0 hm).trans0 hq)
  have Hv := Lib.hid E1.cell
  have hcp : w.heap.size < w1.heap.size := by simp at hsw; omega
  have hrow : ∀ (c : Nat) v, (w1.alloc (.cells #[.pointer (some ⟨b, 0, none⟩)] 135)).cell? ⟨b, 4, none⟩ = some v → v.ownBlock ≠ some c := fun c v h e => by
    rw [E1.cell] at h; cases h; cases e
  have HKm := Lib.hid (⟨by simp, by simp, by omega, hrow _⟩ : Cap (w1.alloc (.cells #[.pointer (some ⟨b, 0, none⟩)] 135)) b w1.heap.size (.pointer (some ⟨b, 0, none⟩)))
  have HKp := Lib.hid (⟨hq.cell hp0 (fun e => e), by simp; omega, by omega, hrow _⟩ : Cap (w1.alloc (.cells #[.pointer (some ⟨b, 0, none⟩)] 135)) b w.heap.size (.string s))
  have hb : w.heap.size ≤ b := by omega
  clear hm E M E1 hq hp0 hrow hsw hb0 hb1
  have h0 := (HC.out.mk HM.out).c0
  have h1 := (HC.out.mk HM.out).c1
  have h2 := (HC.out.mk HM.out).c2
  have h3 := (HC.out.mk HM.out).c3
  have hm := (HKm.out.next Hv.out HC.out).cell
  have hp := (HKp.out.next Hv.out HC.out).cell
  go_wp2
  clear h0 h1 h2 h3 hm hp
  go_wp2
  refine wp_region_held_drew (S := fun W => W.cell? ⟨w1.heap.size, 0, none⟩ = some (.pointer (some ⟨b, 0, none⟩)) ∧ W.cell? ⟨b, 0, none⟩ = some (.string (opStr 12))) (by kernel_rfl) ⟨(Mod.refl noF _).drew.cell (HKm.out.next Hv.out HC.out).cell (fun e => e), (Mod.refl noF _).drew.cell (HC.out.mk HM.out).c0 (fun e => e)⟩ (fun hHeld => ?_)
  refine wpAnyH_take (i := 0) (oi := ?o0x0) (v := ?v0x0) ?q0x0 (by kernel_rfl) ?f0x0 ?g0x0 ?p0x0 ?u0x0 (by assumption) ?r0x0
  case q0x0 => (rw [List.getElem?_toArray]; rfl)
  case f0x0 => kernel_rfl
  case g0x0 => kernel_rfl
  case p0x0 => exact (fun _ _ _ h => h)
  case u0x0 => (refine Or.inl ⟨by rfl, ?_⟩; intro w hSw; (try dsimp only at hSw); go_simp; (try rw [if_neg (by omega)]); try with_reducible rfl)
  try simp only [Act.put, List.setIfInBounds_toArray, List.set_cons_zero, List.set_cons_succ]
  refine wpAnyH_take (i := 1) (oi := ?o0x1) (v := ?v0x1) ?q0x1 (by kernel_rfl) ?f0x1 ?g0x1 ?p0x1 ?u0x1 (by assumption) ?r0x1
  case q0x1 => (rw [List.getElem?_toArray]; rfl)
  case f0x1 => kernel_rfl
  case g0x1 => kernel_rfl
  case p0x1 => exact (fun _ _ _ h => h)
  case u0x1 => (refine Or.inl ⟨by rfl, ?_⟩; intro w hSw; (try dsimp only at hSw); go_simp; (try rw [if_neg (by omega)]); try with_reducible rfl)
  try simp only [Act.put, List.setIfInBounds_toArray, List.set_cons_zero, List.set_cons_succ]
  refine wpAnyH_take (i := 2) (oi := ?o0x2) (v := ?v0x2) ?q0x2 (by kernel_rfl) ?f0x2 ?g0x2 ?p0x2 ?u0x2 (by assumption) ?r0x2
  case q0x2 => (rw [List.getElem?_toArray]; rfl)
  case f0x2 => kernel_rfl
  case g0x2 => kernel_rfl
  case p0x2 => exact (fun _ _ _ h => h)
  case u0x2 => (refine Or.inl ⟨by rfl, ?_⟩; intro w hSw; (try dsimp only at hSw); go_simp; (try rw [if_neg (by omega)]); try with_reducible rfl)
  try simp only [Act.put, List.setIfInBounds_toArray, List.set_cons_zero, List.set_cons_succ]
  refine wpAnyH_take (i := 3) (oi := ?o0x3) (v := ?v0x3) ?q0x3 (by kernel_rfl) ?f0x3 ?g0x3 ?p0x3 ?u0x3 (by assumption) ?r0x3
  case q0x3 => (rw [List.getElem?_toArray]; rfl)
  case f0x3 => kernel_rfl
  case g0x3 => kernel_rfl
  case p0x3 => exact (fun _ _ _ h => h)
  case u0x3 => (refine Or.inl ⟨by rfl, ?_⟩; intro w hSw; (try dsimp only at hSw); go_simp; (try rw [if_neg (by omega)]); try with_reducible rfl)
  try simp only [Act.put, List.setIfInBounds_toArray, List.set_cons_zero, List.set_cons_succ]
  refine wpAnyH_take (i := 4) (oi := ?o0x4) (v := ?v0x4) ?q0x4 (by kernel_rfl) ?f0x4 ?g0x4 ?p0x4 ?u0x4 (by assumption) ?r0x4
  case q0x4 => (rw [List.getElem?_toArray]; rfl)
  case f0x4 => kernel_rfl
  case g0x4 => kernel_rfl
  case p0x4 => exact (fun _ _ _ h => h)
  case u0x4 => (refine Or.inl ⟨by rfl, ?_⟩; intro w hSw; (try dsimp only at hSw); go_simp; (try rw [if_neg (by omega)]); try with_reducible rfl)
  try simp only [Act.put, List.setIfInBounds_toArray, List.set_cons_zero, List.set_cons_succ]
  refine wpAnyH_take (i := 5) (oi := ?o0x5) (v := ?v0x5) ?q0x5 (by kernel_rfl) ?f0x5 ?g0x5 ?p0x5 ?u0x5 (by assumption) ?r0x5
  case q0x5 => (rw [List.getElem?_toArray]; rfl)
  case f0x5 => kernel_rfl
  case g0x5 => kernel_rfl
  case p0x5 => exact (fun _ _ _ h => h)
  case u0x5 => (refine Or.inl ⟨by rfl, ?_⟩; intro w hSw; (try dsimp only at hSw); go_simp; (try rw [if_neg (by omega)]); try with_reducible rfl)
  try simp only [Act.put, List.setIfInBounds_toArray, List.set_cons_zero, List.set_cons_succ]
  refine wpAnyH_take (i := 6) (oi := ?o0x6) (v := ?v0x6) ?q0x6 (by kernel_rfl) ?f0x6 ?g0x6 ?p0x6 ?u0x6 (by assumption) ?r0x6
  case q0x6 => (rw [List.getElem?_toArray]; rfl)
  case f0x6 => kernel_rfl
  case g0x6 => kernel_rfl
  case p0x6 => exact (fun _ _ _ h => h)
  case u0x6 => (refine Or.inl ⟨by rfl, ?_⟩; intro w hSw; (try dsimp only at hSw); go_simp; (try rw [if_neg (by omega)]); try with_reducible rfl)
  try simp only [Act.put, List.setIfInBounds_toArray, List.set_cons_zero, List.set_cons_succ]
  refine wpAnyH_take (i := 7) (oi := ?o0x7) (v := ?v0x7) ?q0x7 (by kernel_rfl) ?f0x7 ?g0x7 ?p0x7 ?u0x7 (by assumption) ?r0x7
  case q0x7 => (rw [List.getElem?_toArray]; rfl)
  case f0x7 => kernel_rfl
  case g0x7 => kernel_rfl
  case p0x7 => exact (fun _ _ _ h => h)
  case u0x7 => (refine Or.inl ⟨by rfl, ?_⟩; intro w hSw; (try dsimp only at hSw); go_simp; (try rw [if_neg (by omega)]); try with_reducible rfl)
  try simp only [Act.put, List.setIfInBounds_toArray, List.set_cons_zero, List.set_cons_succ]
  refine em_spine (items := [⟨none, 8, 31⟩]) (E := [⟨12, [], [], 3, 30⟩]) (r0 := 25) (by kernel_rfl) (by kernel_rfl) (by kernel_rfl) (by rfl) ?lb1 (by rfl) (by rfl) ?len1 (fun w' l' C => ⟨(HKm.out.next Hv.out C).cell, (C.mk HM.out).c0⟩) (HC.out.quiet (Mod.refl _ _).drew) (by kernel_rfl) ?_
  case lb1 => (intro e he hk; simp only [List.mem_cons, List.not_mem_nil, or_false] at he; rcases he with rfl <;> (first | exact absurd rfl hk | exact congrArg Value.string (rfl)))
  case len1 => (first | (simp [takeCode, giveCode, joinCode, awayCode, eachCode, turnGo, waitGo, turnCode] <;> omega) | (simp <;> omega))
  intro U x1 C hU
  have u31 : U 31 = _ := hU 0 _ rfl
  simp only [spTmps, SpI.tmps, List.flatMap_cons, List.flatMap_nil, Option.map_some, Option.map_none, Option.toList_some, Option.toList_none, List.cons_append, List.nil_append, List.append_nil, patch, List.foldl_cons, List.foldl_nil, Act.put, List.setIfInBounds_toArray, List.set_cons_zero, List.set_cons_succ, u31]
  clear u31 hU hHeld
  simp only [List.map_cons, List.map_nil, EmC.ins, List.getD_cons_zero, List.getD_cons_succ, List.getD_nil] at C
  have HC1 := Lib.hid C
  clear C
  have h0 := (HC1.out.mk HM.out).c0
  have h1 := (HC1.out.mk HM.out).c1
  have h2 := (HC1.out.mk HM.out).c2
  have h3 := (HC1.out.mk HM.out).c3
  have hm := (HKm.out.next Hv.out HC1.out).cell
  have hp := (HKp.out.next Hv.out HC1.out).cell
  go_wp2_with fail
  clear h0 h1 h2 h3 hm hp
  have hg := gtake_chain HC1.out (HC1.out.mk HM.out) (by simp [takeCode, giveCode, joinCode, awayCode, eachCode, turnGo, waitGo, turnCode] <;> omega) Hn.out hs
  refine hg.mono ?_
  rintro e x2 ⟨rfl, C⟩
  have HC2 := Lib.hid C
  clear C hg
  have h0 := (HC2.out.mk HM.out).c0
  have h1 := (HC2.out.mk HM.out).c1
  have h2 := (HC2.out.mk HM.out).c2
  have h3 := (HC2.out.mk HM.out).c3
  have hm := (HKm.out.next Hv.out HC2.out).cell
  have hp := (HKp.out.next Hv.out HC2.out).cell
  go_wp2_with fail
  clear h0 h1 h2 h3 hm hp
  have hg := gturn_chain (s ++ ⟨#[46, 120]⟩) (size_plus2 s _ _ hs) 12 rfl HC2.out (HC2.out.mk HM.out) (by simp [takeCode, giveCode, joinCode, awayCode, eachCode, turnGo, waitGo, turnCode] <;> omega)
  refine hg.mono ?_
  rintro e x3 ⟨rfl, C⟩
  have HC3 := Lib.hid C
  clear C hg
  have h0 := (HC3.out.mk HM.out).c0
  have h1 := (HC3.out.mk HM.out).c1
  have h2 := (HC3.out.mk HM.out).c2
  have h3 := (HC3.out.mk HM.out).c3
  have hm := (HKm.out.next Hv.out HC3.out).cell
  have hp := (HKp.out.next Hv.out HC3.out).cell
  go_wp2_with fail
  clear h0 h1 h2 h3 hm hp
  have hg := gturn_chain (s ++ ⟨#[46, 121]⟩) (size_plus2 s _ _ hs) 12 rfl HC3.out (HC3.out.mk HM.out) (by simp [takeCode, giveCode, joinCode, awayCode, eachCode, turnGo, waitGo, turnCode] <;> omega)
  refine hg.mono ?_
  rintro e x4 ⟨rfl, C⟩
  have HC4 := Lib.hid C
  clear C hg
  go_wp2
  refine wp_region_held_drew (S := fun W => W.cell? ⟨w1.heap.size, 0, none⟩ = some (.pointer (some ⟨b, 0, none⟩)) ∧ W.cell? ⟨b, 0, none⟩ = some (.string (opStr 12))) (by kernel_rfl) ⟨(Mod.refl noF _).drew.cell (HKm.out.next Hv.out HC4.out).cell (fun e => e), (Mod.refl noF _).drew.cell (HC4.out.mk HM.out).c0 (fun e => e)⟩ (fun hHeld => ?_)
  refine wpAnyH_take (i := 0) (oi := ?o4x0) (v := ?v4x0) ?q4x0 (by kernel_rfl) ?f4x0 ?g4x0 ?p4x0 ?u4x0 (by assumption) ?r4x0
  case q4x0 => (rw [List.getElem?_toArray]; rfl)
  case f4x0 => kernel_rfl
  case g4x0 => kernel_rfl
  case p4x0 => exact (fun _ _ _ h => h)
  case u4x0 => (refine Or.inl ⟨by rfl, ?_⟩; intro w hSw; (try dsimp only at hSw); go_simp; (try rw [if_neg (by omega)]); try with_reducible rfl)
  try simp only [Act.put, List.setIfInBounds_toArray, List.set_cons_zero, List.set_cons_succ]
  refine wpAnyH_take (i := 1) (oi := ?o4x1) (v := ?v4x1) ?q4x1 (by kernel_rfl) ?f4x1 ?g4x1 ?p4x1 ?u4x1 (by assumption) ?r4x1
  case q4x1 => (rw [List.getElem?_toArray]; rfl)
  case f4x1 => kernel_rfl
  case g4x1 => kernel_rfl
  case p4x1 => exact (fun _ _ _ h => h)
  case u4x1 => (refine Or.inl ⟨by rfl, ?_⟩; intro w hSw; (try dsimp only at hSw); go_simp; (try rw [if_neg (by omega)]); try with_reducible rfl)
  try simp only [Act.put, List.setIfInBounds_toArray, List.set_cons_zero, List.set_cons_succ]
  refine wpAnyH_take (i := 2) (oi := ?o4x2) (v := ?v4x2) ?q4x2 (by kernel_rfl) ?f4x2 ?g4x2 ?p4x2 ?u4x2 (by assumption) ?r4x2
  case q4x2 => (rw [List.getElem?_toArray]; rfl)
  case f4x2 => kernel_rfl
  case g4x2 => kernel_rfl
  case p4x2 => exact (fun _ _ _ h => h)
  case u4x2 => (refine Or.inl ⟨by rfl, ?_⟩; intro w hSw; (try dsimp only at hSw); go_simp; (try rw [if_neg (by omega)]); try with_reducible rfl)
  try simp only [Act.put, List.setIfInBounds_toArray, List.set_cons_zero, List.set_cons_succ]
  refine wpAnyH_take (i := 3) (oi := ?o4x3) (v := ?v4x3) ?q4x3 (by kernel_rfl) ?f4x3 ?g4x3 ?p4x3 ?u4x3 (by assumption) ?r4x3
  case q4x3 => (rw [List.getElem?_toArray]; rfl)
  case f4x3 => kernel_rfl
  case g4x3 => kernel_rfl
  case p4x3 => exact (fun _ _ _ h => h)
  case u4x3 => (refine Or.inl ⟨by rfl, ?_⟩; intro w hSw; (try dsimp only at hSw); go_simp; (try rw [if_neg (by omega)]); try with_reducible rfl)
  try simp only [Act.put, List.setIfInBounds_toArray, List.set_cons_zero, List.set_cons_succ]
  refine wpAnyH_take (i := 4) (oi := ?o4x4) (v := ?v4x4) ?q4x4 (by kernel_rfl) ?f4x4 ?g4x4 ?p4x4 ?u4x4 (by assumption) ?r4x4
  case q4x4 => (rw [List.getElem?_toArray]; rfl)
  case f4x4 => kernel_rfl
  case g4x4 => kernel_rfl
  case p4x4 => exact (fun _ _ _ h => h)
  case u4x4 => (refine Or.inl ⟨by rfl, ?_⟩; intro w hSw; (try dsimp only at hSw); go_simp; (try rw [if_neg (by omega)]); try with_reducible rfl)
  try simp only [Act.put, List.setIfInBounds_toArray, List.set_cons_zero, List.set_cons_succ]
  refine wpAnyH_take (i := 5) (oi := ?o4x5) (v := ?v4x5) ?q4x5 (by kernel_rfl) ?f4x5 ?g4x5 ?p4x5 ?u4x5 (by assumption) ?r4x5
  case q4x5 => (rw [List.getElem?_toArray]; rfl)
  case f4x5 => kernel_rfl
  case g4x5 => kernel_rfl
  case p4x5 => exact (fun _ _ _ h => h)
  case u4x5 => (refine Or.inl ⟨by rfl, ?_⟩; intro w hSw; (try dsimp only at hSw); go_simp; (try rw [if_neg (by omega)]); try with_reducible rfl)
  try simp only [Act.put, List.setIfInBounds_toArray, List.set_cons_zero, List.set_cons_succ]
  refine wpAnyH_take (i := 6) (oi := ?o4x6) (v := ?v4x6) ?q4x6 (by kernel_rfl) ?f4x6 ?g4x6 ?p4x6 ?u4x6 (by assumption) ?r4x6
  case q4x6 => (rw [List.getElem?_toArray]; rfl)
  case f4x6 => kernel_rfl
  case g4x6 => kernel_rfl
  case p4x6 => exact (fun _ _ _ h => h)
  case u4x6 => (refine Or.inl ⟨by rfl, ?_⟩; intro w hSw; (try dsimp only at hSw); go_simp; (try rw [if_neg (by omega)]); try with_reducible rfl)
  try simp only [Act.put, List.setIfInBounds_toArray, List.set_cons_zero, List.set_cons_succ]
  refine wpAnyH_take (i := 7) (oi := ?o4x7) (v := ?v4x7) ?q4x7 (by kernel_rfl) ?f4x7 ?g4x7 ?p4x7 ?u4x7 (by assumption) ?r4x7
  case q4x7 => (rw [List.getElem?_toArray]; rfl)
  case f4x7 => kernel_rfl
  case g4x7 => kernel_rfl
  case p4x7 => exact (fun _ _ _ h => h)
  case u4x7 => (refine Or.inl ⟨by rfl, ?_⟩; intro w hSw; (try dsimp only at hSw); go_simp; (try rw [if_neg (by omega)]); try with_reducible rfl)
  try simp only [Act.put, List.setIfInBounds_toArray, List.set_cons_zero, List.set_cons_succ]
  refine em_spine (items := [⟨none, 8, 50⟩]) (E := [⟨12, [], [], 3, 49⟩]) (r0 := 44) (by kernel_rfl) (by kernel_rfl) (by kernel_rfl) (by rfl) ?lb5 (by rfl) (by rfl) ?len5 (fun w' l' C => ⟨(HKm.out.next Hv.out C).cell, (C.mk HM.out).c0⟩) (HC4.out.quiet (Mod.refl _ _).drew) (by kernel_rfl) ?_
  case lb5 => (intro e he hk; simp only [List.mem_cons, List.not_mem_nil, or_false] at he; rcases he with rfl <;> (first | exact absurd rfl hk | exact congrArg Value.string (rfl)))
  case len5 => (first | (simp [takeCode, giveCode, joinCode, awayCode, eachCode, turnGo, waitGo, turnCode] <;> omega) | (simp <;> omega))
  intro U x5 C hU
  have u50 : U 50 = _ := hU 0 _ rfl
  simp only [spTmps, SpI.tmps, List.flatMap_cons, List.flatMap_nil, Option.map_some, Option.map_none, Option.toList_some, Option.toList_none, List.cons_append, List.nil_append, List.append_nil, patch, List.foldl_cons, List.foldl_nil, Act.put, List.setIfInBounds_toArray, List.set_cons_zero, List.set_cons_succ, u50]
  clear u50 hU hHeld
  simp only [List.map_cons, List.map_nil, EmC.ins, List.getD_cons_zero, List.getD_cons_succ, List.getD_nil] at C
  have HC5 := Lib.hid C
  clear C
  have h0 := (HC5.out.mk HM.out).c0
  have h1 := (HC5.out.mk HM.out).c1
  have h2 := (HC5.out.mk HM.out).c2
  have h3 := (HC5.out.mk HM.out).c3
  have hm := (HKm.out.next Hv.out HC5.out).cell
  have hp := (HKp.out.next Hv.out HC5.out).cell
  go_wp2_with fail
  clear h0 h1 h2 h3 hm hp
  have hg := ggive_chain HC5.out (HC5.out.mk HM.out) (by simp [takeCode, giveCode, joinCode, awayCode, eachCode, turnGo, waitGo, turnCode] <;> omega) Hn.out hs
  refine hg.mono ?_
  rintro e x6 ⟨rfl, C⟩
  have HC6 := Lib.hid C
  clear C hg
  have h0 := (HC6.out.mk HM.out).c0
  have h1 := (HC6.out.mk HM.out).c1
  have h2 := (HC6.out.mk HM.out).c2
  have h3 := (HC6.out.mk HM.out).c3
  have hm := (HKm.out.next Hv.out HC6.out).cell
  have hp := (HKp.out.next Hv.out HC6.out).cell
  obtain ⟨v, ec, hv⟩ := HC6.out.made (w := w) (by simp [Value.ownBlock]) Hm.out hb
  have Hv := Lib.hid hv
  clear hv
  go_wp2
  go_ret2
  exact ⟨v, rfl, by rw [← gwait4_eq]; simpa [List.append_assoc] using Hv.out⟩
end Go.Proofs.YtppihkneeolomaaGreatDoor
end
/- Clients' and stacks' code: blocks. -/
section
namespace Qc
open Qs Qu Go.Proofs.YtppihkneeolomaaGreatDoor
def laterBlk (p : List UInt8) (tn : Nat) (nx : Int) : List Instr := [⟨14, 3, 0, 0, p⟩, ⟨6, 2, 5, ((1 + tn / 4 : Nat) : Int), []⟩, ⟨6, 0, 2, ((tn % 4 : Nat) : Int), []⟩, ⟨7, 3, 0, nx, []⟩, ⟨7, 2, 3, ((tn % 4 : Nat) : Int), []⟩, ⟨0, 3, 0, 0, []⟩, ⟨17, 0, 0, 0, p⟩]
def flushTail (p q : List UInt8) (tn : Nat) (nx : Int) : List Instr := [⟨6, 2, 5, ((1 + tn / 4 : Nat) : Int), []⟩, ⟨17, 0, 0, 0, p⟩, ⟨6, 0, 2, ((tn % 4 : Nat) : Int), []⟩, ⟨14, 0, 0, 0, q⟩, ⟨6, 1, 0, nx, []⟩, ⟨7, 2, 1, ((tn % 4 : Nat) : Int), []⟩, ⟨11, 0, 0, 0, []⟩, ⟨16, 0, 0, 0, p⟩, ⟨17, 0, 0, 0, q⟩]
def part (f k j : Nat) : List Instr := preC (labN (k + 1)) (gcode f j)
def flushBlk (f k tn : Nat) (nx : Int) : List Instr := part f k 4 ++ flushTail (labN (k + 2)) (labN (k + 3)) tn nx
end Qc
end
/- Faults of lists of ops, in plain: which ops, which numbers. -/
section
namespace Go.Proofs.YtppihkneeolomaaGreatDoor
open Go.RowKit Qs Qh
variable {N : Nat} {w w' : World} {v u : Value} {ll : List (List ROp)} {l : List ROp} {rf : List ROp → Option Int}
/-- The first thread's fault. -/
def allR (rf : List ROp → Option Int) : Nat → List (List ROp) → Int × Int
  | _, [] => (0, -1)
  | i, l :: r => match rf l with
    | some c => (c, i)
    | none => allR rf (i + 1) r
theorem allR_at : ∀ (ll : List (List ROp)) (i k : Nat) (l : List ROp) (c : Int), ll[k]? = some l → (∀ (j : Nat) y, j < k → ll[j]? = some y → rf y = none) → rf l = some c → allR rf i ll = (c, ((i + k : Nat) : Int))
  | [], i, k, l, c, h, _, _ => by simp at h
  | y :: ll, i, 0, l, c, h, _, h0 => by
    simp at h; subst h
    unfold allR; rw [h0]; rfl
  | y :: ll, i, k + 1, l, c, h, ha, h0 => by
    have hy := ha 0 y (by omega) rfl
    have := allR_at ll (i + 1) k l c (by simpa using h) (fun j z hj hz => ha (j + 1) z (by omega) (by simpa using hz)) h0
    unfold allR; rw [hy]
    show allR rf (i + 1) ll = _
    rw [this, show i + 1 + k = i + (k + 1) by omega]
theorem allR_none : ∀ (ll : List (List ROp)) (i : Nat), (∀ (j : Nat) y, ll[j]? = some y → rf y = none) → allR rf i ll = (0, -1)
  | [], i, _ => rfl
  | y :: ll, i, h => by
    unfold allR; rw [h 0 y rfl]
    exact allR_none ll (i + 1) fun j z hz => h (j + 1) z (by simpa using hz)
/-- What is told of lists is a fault of one, or none. -/
theorem allR_cases : ∀ (ll : List (List ROp)) (i : Nat), (allR rf i ll = (0, -1) ∧ ∀ l ∈ ll, rf l = none) ∨ ∃ (k : Nat) (l : List ROp) (c : Int), ll[k]? = some l ∧ rf l = some c ∧ allR rf i ll = (c, ((i + k : Nat) : Int)) ∧ ∀ (j : Nat) y, j < k → ll[j]? = some y → rf y = none
  | [], i => .inl ⟨rfl, fun _ h => by cases h⟩
  | y :: ll, i => by
    cases hy : rf y with
    | some c => exact .inr ⟨0, y, c, rfl, hy, by unfold allR; rw [hy]; rfl, fun j z hj => by omega⟩
    | none =>
      rcases allR_cases ll (i + 1) with ⟨h, h2⟩ | ⟨k, l, c, h1, h2, h3, h4⟩
      · refine .inl ⟨by unfold allR; rw [hy]; exact h, fun l hl => ?_⟩
        rcases List.mem_cons.1 hl with rfl | hl
        · exact hy
        · exact h2 l hl
      · refine .inr ⟨k + 1, l, c, by simpa using h1, h2, ?_, fun j z hj hz => ?_⟩
        · unfold allR; rw [hy]
          show allR rf (i + 1) ll = _
          rw [h3, show i + 1 + k = i + (k + 1) by omega]
        · cases j with
          | zero => simp at hz; subst hz; exact hy
          | succ j => exact h4 j z (by omega) (by simpa using hz)
/-- Is a name among names? -/
def memK (ks : List ByteArray) (s : ByteArray) : Bool := ks.any fun k => decide (k = s)
theorem memK_iff {ks : List ByteArray} {s : ByteArray} : memK ks s = true ↔ s ∈ ks := by
  unfold memK
  rw [List.any_eq_true]
  constructor
  · rintro ⟨k, h, e⟩; rw [← of_decide_eq_true e]; exact h
  · exact fun h => ⟨s, h, by simp⟩
variable {W : ByteArray} {ks : List ByteArray}
/-- Words of a list of names. -/
def KsAt (w : World) (g : Nat) (ks : List ByteArray) : Prop := ∀ (i : Nat) x, ks[i]? = some x → w.cell? ⟨g, i, none⟩ = some (.string x)
theorem KsAt.keep {g : Nat} (h : KsAt w g ks) {F : Nat → Prop} (hM : Mod F w w') (hF : ¬ F g) : KsAt w' g ks := fun i x hi => hM.cell (h i x hi) hF
end Go.Proofs.YtppihkneeolomaaGreatDoor
end
/- Lists of any ops, made in memory; quiescentlaw3.opsOf. -/
section
namespace Go.Proofs.YtppihkneeolomaaGreatDoor
open Go.RowKit Qs Qh
variable {N k S : Nat} {w w1 w' : World} {v u cv cv' : Value} {ll : List (List ROp)} {l : List ROp} {cs : Nat → List ROp} {vk : Nat → Value}
theorem RRow.frame (h : RRow N w u l) {F : Nat → Prop} (hM : Mod F w w') (hF : ∀ b, u.ownBlock = some b → ¬ F b) : RRow N w' u l := by
  obtain ⟨a, c, rfl, hx⟩ := h
  refine ⟨a, c, rfl, fun i x hi => ?_⟩
  obtain ⟨b, off, rfl, hb, h0, h1⟩ := hx i x hi
  exact ⟨b, off, rfl, hb, hM.cell h0 (hF b rfl), hM.cell h1 (hF b rfl)⟩
theorem RRow.mono (h : RRow N w u l) {N' : Nat} (hN : N ≤ N') : RRow N' w u l := by
  obtain ⟨a, c, e, hx⟩ := h
  refine ⟨a, c, e, fun i x hi => ?_⟩
  obtain ⟨b, off, e1, hb, h⟩ := hx i x hi
  exact ⟨b, off, e1, Nat.lt_of_lt_of_le hb hN, h⟩
def rV (_ : Nat) (x : ROp) : List Value := [.string (x.1), .int .i64 (x.2)]
theorem rRow_own {T : TypeId} (h : w.ownsRow 0 T 2 u l.length (flat rV 0 l)) : RRow w.heap.size w u l := by
  rcases h.2 with ⟨rfl, h0⟩ | ⟨g, cap, cur, rfl, _, hg, h1, h2, h3, h4⟩
  · exact ⟨none, 0, by rw [h0], fun i x hi => by have := (List.getElem?_eq_some_iff.1 hi).1; omega⟩
  · refine ⟨_, cap, rfl, fun i x hi => ⟨g, 0, rfl, lt_of_block hg, ?_, ?_⟩⟩
    all_goals
      have hlt : i < l.length := (List.getElem?_eq_some_iff.1 hi).1
      have key : ∀ j, j < 2 → cur[i * 2 + j]? = (rV 0 x)[j]? := fun j hj => by
        have hgt := flat_get rV 2 (fun _ _ => rfl) hj l 0 i x hi []
        rw [List.append_nil] at hgt
        have e : cur[i * 2 + j]? = (cur.toList.take (l.length * 2))[i * 2 + j]? := by
          rw [List.getElem?_take, if_pos (by omega)]; simp
        rw [e, h4, hgt]; rfl
    · have := key 0 (by omega)
      rw [cell_of_heap hg, Nat.zero_add]; exact this
    · have := key 1 (by omega)
      rw [cell_of_heap hg, Nat.zero_add]; exact this
/-- The lists made so far. -/
structure Rls (S : Nat) (w : World) (cv : Value) (cs : Nat → List ROp) (k : Nat) (vk : Nat → Value) : Prop where
  own : w.ownsRow 0 86 1 cv k ((List.range k).map vk)
  vin : ∀ g, cv.ownBlock = some g → S ≤ g
  at_ : ∀ i, i < k → RRow w.heap.size w (vk i) (cs i)
  bin : ∀ i g, i < k → (vk i).ownBlock = some g → S ≤ g ∧ g < w.heap.size
  ne : ∀ i g, i < k → (vk i).ownBlock = some g → cv.ownBlock ≠ some g
theorem Rls.nil (S : Nat) (w : World) (cs : Nat → List ROp) (vk : Nat → Value) : Rls S w (.slice none 0 0) cs 0 vk :=
  ⟨World.ownsRow_nil w 0 _ 1, fun g h => (by cases h), fun i h => by omega, fun i g h => by omega, fun i g h => by omega⟩
theorem Rls.keep (C : Rls S w cv cs k vk) {F : Nat → Prop} (hM : Mod F w w1) (hF : ∀ b, S ≤ b → b < w.heap.size → ¬ F b) : Rls S w1 cv cs k vk := by
  refine ⟨⟨C.own.1, ?_⟩, C.vin, fun i hi => ((C.at_ i hi).frame hM fun b hb => hF b (C.bin i b hi hb).1 (C.bin i b hi hb).2).mono hM.size, fun i g hi hg => ⟨(C.bin i g hi hg).1, Nat.lt_of_lt_of_le (C.bin i g hi hg).2 hM.size⟩, C.ne⟩
  rcases C.own.2 with e | ⟨g, cap, cur, rfl, h0, hg, r⟩
  · exact .inl e
  · exact .inr ⟨g, cap, cur, rfl, h0, hM.heap hg (hF _ (C.vin g rfl) (lt_of_block hg)), r⟩
theorem Rls.push (C : Rls S w cv cs k vk) (hS : S ≤ w.heap.size) (hc : RRow w.heap.size w u (cs k)) (hu : ∀ g, u.ownBlock = some g → S ≤ g ∧ g < w.heap.size ∧ cv.ownBlock ≠ some g)
    (hown : w1.ownsRow 0 86 1 cv' (k + 1) ((List.range k).map vk ++ [u])) (hg : w.grownBy w1 cv.ownBlock) (hfr : ∀ g, cv'.ownBlock = some g → cv.ownBlock = some g ∨ w.heap.size ≤ g) :
    Rls S w1 cv' cs (k + 1) (fun i => if i = k then u else vk i) := by
  have hM : Mod (fun x => cv.ownBlock = some x) w w1 := (Mod.refl (fun x => cv.ownBlock = some x) w).grown hg fun j hj _ => hj
  refine ⟨?_, fun g h => ?_, fun i hi => ?_, fun i g hi h => ?_, fun i g hi h e => ?_⟩
  · have : (List.range (k + 1)).map (fun i => if i = k then u else vk i) = (List.range k).map vk ++ [u] := by
      rw [List.range_succ, List.map_append]
      congr 1
      · refine List.map_congr_left fun i hi => ?_
        have := List.mem_range.1 hi
        rw [if_neg (by omega)]
      · simp
    rw [this]; exact hown
  · rcases hfr g h with e | e
    · exact C.vin g e
    · omega
  · by_cases e : i = k
    · subst e
      simp only [if_true]
      exact (hc.frame hM fun b hb e => (hu b hb).2.2 e).mono hM.size
    · rw [if_neg e]
      exact ((C.at_ i (by omega)).frame hM fun b hb e' => C.ne i b (by omega) hb e').mono hM.size
  · have hs := hM.size
    by_cases e : i = k
    · subst e
      simp only [if_true] at h
      have := hu g h; exact ⟨this.1, by omega⟩
    · rw [if_neg e] at h
      have := C.bin i g (by omega) h; exact ⟨this.1, by omega⟩
  · have hlt : g < w.heap.size := by
      by_cases e : i = k
      · subst e
        simp only [if_true] at h
        exact (hu g h).2.1
      · rw [if_neg e] at h
        exact (C.bin i g (by omega) h).2
    rcases hfr g e with e' | e'
    · by_cases e2 : i = k
      · subst e2
        simp only [if_true] at h
        exact (hu g h).2.2 e'
      · rw [if_neg e2] at h
        exact C.ne i g (by omega) h e'
    · omega
theorem Rls.rin (C : Rls S w cv cs k vk) : RIn w.heap.size w cv ((List.range k).map cs) := by
  rcases C.own.2 with ⟨rfl, h0⟩ | ⟨g, cap, cur, rfl, _, hg, h1, h2, h3, h4⟩
  · subst h0
    exact ⟨none, 0, rfl, fun i l h => by simp at h⟩
  · refine ⟨some ⟨g, 0, none⟩, cap, by simp, fun i l h => ?_⟩
    have hlt : i < k := by have := (List.getElem?_eq_some_iff.1 h).1; simpa using this
    have hl : l = cs i := by
      rw [List.getElem?_map, List.getElem?_range hlt] at h
      exact (Option.some.inj h).symm
    subst hl
    refine ⟨g, 0, vk i, rfl, lt_of_block hg, ?_, C.at_ i hlt⟩
    rw [cell_of_heap hg, Nat.zero_add]
    have e : cur[i]? = (cur.toList.take (k * 1))[i]? := by
      rw [List.getElem?_take, if_pos (by omega)]; simp
    rw [e, h4, List.getElem?_map, List.getElem?_range hlt]; rfl
end Go.Proofs.YtppihkneeolomaaGreatDoor
end
/- quiescentlaw3.opsOf: a copy of lists of ops. -/
section
namespace Go.Proofs.YtppihkneeolomaaGreatDoor
open Go.RowKit Qs Qh
theorem opInfoR : (Tryz.prog.info? 88).map (fun i => (i.zero, i.size, i.bytes)) = some (some (.agg #[.string ⟨#[]⟩, .int .i64 0]), 2, 24) := by kernel_rfl
theorem opsInfoR : (Tryz.prog.info? 86).map (fun i => (i.zero, i.size, i.bytes)) = some (some (.slice none 0 0), 1, 24) := by kernel_rfl
variable {N k S : Nat} {w w1 w' : World} {v u cv cv' : Value} {ll : List (List ROp)} {l : List ROp} {cs : Nat → List ROp} {vk : Nat → Value}
/-- Nil slices hold nothing. -/
def NilOk (w : World) (v : Value) : Prop := ∀ b off n m (i : Nat) k c, v = .slice (some ⟨b, off, none⟩) n m → i < n → w.cell? ⟨b, off + i, none⟩ = some (.slice none k c) → c = 0
theorem rV_ones (l : List ROp) : ∀ s, ∀ u ∈ flat rV s l, u.oneCell' = true := by
  induction l with
  | nil => intro s u h; cases h
  | cons x l ih =>
    intro s u h
    simp only [flat, rV, List.mem_append] at h
    rcases h with h | h
    · simp at h; rcases h with rfl | rfl <;> rfl
    · exact ih (s + 1) u h
theorem rV_len (l : List ROp) (s : Nat) : (flat rV s l).length = l.length * 2 := flat_length rV 2 (fun _ _ => rfl) l s
theorem RRow.src {ad : Addr} {n c : Nat} (h : RRow N w (.slice (some ad) n c) l) : ∀ (j : Nat) y, (flat rV 0 l)[j]? = some y → w.cell? (ad.add j) = some y := by
  obtain ⟨a, c', e, hx⟩ := h
  intro j y hj
  have hlt := (List.getElem?_eq_some_iff.1 hj).1
  rw [rV_len] at hlt
  obtain ⟨x, hxi⟩ : ∃ x, l[j / 2]? = some x := ⟨_, List.getElem?_eq_getElem (by omega)⟩
  obtain ⟨b, off, rfl, hb, h0, h1⟩ := hx (j / 2) x hxi
  cases e
  have hgt := flat_get rV 2 (fun _ _ => rfl) (show j % 2 < 2 by omega) l 0 (j / 2) x hxi []
  rw [List.append_nil, show j / 2 * 2 + j % 2 = j by omega, hj] at hgt
  have hadd : (⟨b, off, none⟩ : Addr).add j = ⟨b, off + j, none⟩ := by unfold Addr.add; split <;> simp_all
  rw [hadd]
  rcases (by omega : j % 2 = 0 ∨ j % 2 = 1) with e | e
  · rw [e] at hgt
    have : some y = some (Value.string x.1) := hgt
    rw [this, ← h0, show off + j = off + j / 2 * 2 by omega]
  · rw [e] at hgt
    have : some y = some (Value.int .i64 x.2) := hgt
    rw [this, ← h1, show off + j = off + j / 2 * 2 + 1 by omega]
end Go.Proofs.YtppihkneeolomaaGreatDoor
end
/- quiescentlaw2.opsOf -/
section
namespace Go.Proofs.YtppihkneeolomaaGreatDoor
open Go.RowKit Qs Qh
variable {N k S : Nat} {w w1 w' : World} {v u cv cv' : Value} {ll : List (List ROp)} {l : List ROp} {cs : Nat → List ROp} {vk : Nat → Value}
set_option maxHeartbeats 8000000 in
theorem opsOf2_ok (H : RIn N w v ll) (hnil : NilOk w v) (hlen : ll.length ≤ 10) (hrow : ∀ l ∈ ll, l.length ≤ 30) :
    Calls Tryz.prog 27 #[v] w fun e w' => ∃ x, e = .returned x ∧ Mod noF w w' ∧ RIn w'.heap.size w' x ll := by
  have HH := Lib.hid H
  obtain ⟨a, c, rfl, -⟩ := H
  have Hrow := Lib.hid hrow
  have Hnil := Lib.hid hnil
  clear hrow hnil
  obtain ⟨i0, hti, hz0, hz1, hz2⟩ := info_parts opInfoR
  obtain ⟨j0, htj, hy0, hy1, hy2⟩ := info_parts opsInfoR
  go_enter Tryz.func27, Tryz.ntmps27
  go_wp2
  go_loopw [3, 4] (fun x i wr => ∃ (k : Nat) (vk : Nat → Value), k ≤ ll.length ∧ i = .int .i64 k ∧ Mod noF w wr ∧ Rls w.heap.size wr x (fun i => ll.getD i []) k vk) (fun _ i _ => ll.length - (intOf i).toNat)
  case atStart => exact ⟨0, fun _ => .nilIface, Nat.zero_le _, rfl, Mod.refl _ _, Rls.nil _ _ _ _⟩
  case round =>
    obtain ⟨k, vk, hk, rfl, hm, hO⟩ := hrel
    obtain ⟨xa, xb, xc, rfl⟩ := slice_of_own hO.own
    have HO := Lib.hid hO
    have Hm := Lib.hid hm
    clear hO
    by_cases hlt : k < ll.length
    · have hd : decide ((k : Int) < (ll.length : Int)) = true := by simp; omega
      have hki : (k : Int) < (ll.length : Int) := by omega
      obtain ⟨l, hl⟩ : ∃ l, ll[k]? = some l := ⟨_, List.getElem?_eq_getElem hlt⟩
      obtain ⟨a', c', e', hx⟩ := HH.out
      cases e'
      obtain ⟨b, off, u, rfl, hb, hc, hr⟩ := hx k l hl
      have hrl := hr.keep hm (fun _ _ e => e)
      obtain ⟨ua, uc, rfl, -⟩ := hr
      have hc1 := hm.cell hc (fun e => e)
      have hl30 := Hrow.out l (List.mem_of_getElem? hl)
      have hls : ll.getD k [] = l := by rw [List.getD_eq_getElem?_getD, hl]; rfl
      have hsz := hm.size
      have hbnd : k + 1 ≤ maxLen := by unfold maxLen; omega
      have hbnd2 : 0 + l.length ≤ maxLen := by unfold maxLen; omega
      have Hls := Lib.hid hls
      have Hrl := Lib.hid hrl
      have hnl := Hnil.out b off _ _ k l.length uc rfl hlt
      clear hx hls hrl hm
      cases ua with
      | none =>
        obtain rfl := hnl hc
        have hl0 : l = [] := by
          obtain ⟨a2, c2, e2, hx2⟩ := Hrl.out
          cases l with
          | nil => rfl
          | cons y l =>
            obtain ⟨_, _, e3, _⟩ := hx2 0 y rfl
            cases e2; cases e3
        subst hl0
        simp only [List.length_nil] at hc1
        clear hc hnl hl hbnd2 hl30
        go_wp2_with (at_builtin; first | (refine wpList_append_none rfl (.tmp 13) (.tmp 17) 86 rfl 0 88 i0 2 Tryz.underlying86 hti (.slice none 0 0) 0 [] rfl (World.ownsRow_nil _ 0 _ 2) rfl ?_) | (refine wpList_append_mine _ rfl (.tmp 12) (.tmp 19) 22 rfl 86 j0 (.slice none 0 0) 1 24 Tryz.underlying22 htj hy0 hy1 hy2 rfl (by decide) _ k ((List.range k).map vk) rfl (by exact World.ownsRow.alloc HO.out.own _) ⟨wr.heap.size, 0, none⟩ 1 1 [.slice none 0 0] rfl rfl (by exact new_cells_at _ _ _ rfl) (one_row _ rfl) hbnd (by omega) ?_; intro v4 w7 hown hgr hfr _; obtain ⟨va, vb, vc, rfl⟩ := slice_of_own hown; have Hown4 := Lib.hid hown; have Hgr := Lib.hid hgr; have Hfr := Lib.hid hfr; clear hown hgr hfr))
        go_wp2
        go_roundw
        case rel =>
          refine ⟨k + 1, _, by omega, by go_num, ((Hm.out.alloc _).trans ((Mod.refl (fun x => (Value.slice xa xb xc).ownBlock = some x) _).grown Hgr.out fun j hj _ => hj) fun x hx e => ?_), (HO.out.keep ((Mod.refl noF wr).alloc _) fun _ _ _ e => e).push (u := .slice none 0 0) (by simp; omega) (by rw [Hls.out]; exact ⟨none, 0, rfl, fun i x hi => by simp at hi⟩) (fun g hg => by cases hg) Hown4.out Hgr.out Hfr.out⟩
          have := HO.out.vin x e; omega
        case measure => simp [intOf]; omega
      | some ad =>
        clear hc hnl hl
        have hsrc := Hrl.out.src
        have hone := rV_ones l 0
        have hlen2 := rV_len l 0
        have Hsrc := Lib.hid hsrc
        have Hone := Lib.hid hone
        have Hlen2 := Lib.hid hlen2
        clear hsrc hone hlen2
        go_wp2_with (at_builtin; first | (refine wpList_append_mine _ rfl (.tmp 13) (.tmp 17) 86 rfl 88 i0 (.agg #[.string ⟨#[]⟩, .int .i64 0]) 2 24 Tryz.underlying86 hti hz0 hz1 hz2 rfl (by decide) (.slice none 0 0) 0 [] rfl (World.ownsRow_nil _ 0 _ 2) ad l.length uc (flat rV 0 l) rfl Hlen2.out Hsrc.out Hone.out hbnd2 (by omega) ?_; intro v4 w7 hown hgr hfr _; obtain ⟨ya, yb, yc, rfl⟩ := slice_of_own hown; have Hown4 := Lib.hid hown; have Hgr := Lib.hid hgr; have Hfr := Lib.hid hfr; have hm7 : Mod noF wr w7 := (Mod.refl noF wr).trans ((Mod.refl (fun x => (Value.slice none 0 0).ownBlock = some x) wr).grown hgr fun j hj _ => hj) (fun x hx e => by cases e); have HO4 := Lib.hid (HO.out.keep hm7 fun _ _ _ e => e); have Hm7 := Lib.hid hm7; clear hown hgr hfr hm7) | (refine wpList_append_mine _ rfl (.tmp 12) (.tmp 19) 22 rfl 86 j0 (.slice none 0 0) 1 24 Tryz.underlying22 htj hy0 hy1 hy2 rfl (by decide) _ k ((List.range k).map vk) rfl (by exact World.ownsRow.alloc HO4.out.own _) ⟨w7.heap.size, 0, none⟩ 1 1 [.slice ya yb yc] rfl rfl (by exact new_cells_at _ _ _ rfl) (one_row _ rfl) hbnd (by omega) ?_; intro v5 w8 hown hgr hfr _; obtain ⟨za, zb, zc, rfl⟩ := slice_of_own hown; have Hown5 := Lib.hid hown; have Hgr5 := Lib.hid hgr; have Hfr5 := Lib.hid hfr; clear hown hgr hfr))
        have hs7 := Hm7.out.size
        have hrow7 : RRow w7.heap.size w7 (.slice ya yb yc) l := by
          have h := Hown4.out
          rw [List.nil_append, Nat.zero_add] at h
          exact rRow_own h
        have Hrow7 := Lib.hid hrow7
        clear hrow7
        go_wp2
        go_roundw
        case rel =>
          refine ⟨k + 1, _, by omega, by go_num, (((Hm.out.trans0 Hm7.out).alloc _).trans ((Mod.refl (fun x => (Value.slice xa xb xc).ownBlock = some x) _).grown Hgr5.out fun j hj _ => hj) fun x hx e => ?_), (HO4.out.keep ((Mod.refl noF w7).alloc _) fun _ _ _ e => e).push (u := .slice ya yb yc) (by simp; omega) (by rw [Hls.out]; exact (Hrow7.out.frame ((Mod.refl noF w7).alloc _) fun _ _ e => e).mono (by simp)) (fun g hg => ?_) Hown5.out Hgr5.out Hfr5.out⟩
          · have := HO.out.vin x e; omega
          · have h1 : wr.heap.size ≤ g := by
              rcases Hfr.out g hg with e | e
              · cases e
              · exact e
            have h2 := (World.ownsRow.lt Hown4.out g hg).2
            refine ⟨by omega, by simp; omega, fun e => ?_⟩
            have := (World.ownsRow.lt HO.out.own g e).2
            omega
        case measure => simp [intOf]; omega
    · have hd : decide ((k : Int) < (ll.length : Int)) = false := by simp; omega
      obtain rfl : k = ll.length := by omega
      have hfin : (List.range ll.length).map (fun i => ll.getD i []) = ll := by
        refine List.ext_getElem? fun i => ?_
        rw [List.getElem?_map]
        by_cases h : i < ll.length
        · rw [List.getElem?_range h, List.getElem?_eq_getElem h]; simp [h]
        · rw [List.getElem?_eq_none (by simpa using h), List.getElem?_eq_none (by omega)]; rfl
      have hR := HO.out.rin
      rw [hfin] at hR
      have HR := Lib.hid hR
      clear hR hfin hm
      go_wp2
      go_ret
      exact ⟨_, rfl, Hm.out, HR.out⟩
end Go.Proofs.YtppihkneeolomaaGreatDoor
end
/- Lists of lists of ops that came in. -/
section
namespace Go.Proofs.YtppihkneeolomaaGreatDoor
open Go.ChangeShapes Go.WideShapes Go.ChangeAt Go.RowKit Qh
def opVals (x : ROp) : List Value := [.string x.1, .int .i64 x.2]
theorem opLen2 {l : List Value} (h : l.length = 2) : ∃ c0 c1 : Value, l = [c0, c1] := by
  match l, h with
  | [c0, c1], _ => exact ⟨c0, c1, rfl⟩
theorem Op_read {H : Type} {enc : TypeId × Value → H} {W : World} (n : Nat) (cs : List Value) (y : DataW H × List MemPlace) (h : DataW.trod enc Tryz.prog W 0 (fun _ => true) true n 88 cs = some y) : ∃ x : ROp, cs = opVals x ∧ True := by
  obtain ⟨xs, n', rfl, _, hlen, hxl, hf⟩ := DataW.trod_struct Tryz.underlying88 h
  rw [show Tryz.prog.cellsOf 88 = 2 by kernel_rfl] at hlen
  have k1 : Tryz.prog.cellsOf 3 = 1 := by kernel_rfl
  have k9 : Tryz.prog.cellsOf 9 = 1 := by kernel_rfl
  obtain ⟨c0, c1, rfl⟩ := opLen2 hlen
  have h0 := hf 0 ⟨"Kind", 9, 0, false, "", "", 0⟩ rfl
  rw [List.getElem?_eq_getElem (show 0 < xs.length by rw [hxl]; decide)] at h0
  obtain ⟨s0, e0, _, o0⟩ := DataW.trod_string Tryz.underlying9 h0
  simp only [k9, List.drop_succ_cons, List.drop_zero, List.take_succ_cons, List.take_zero, List.cons.injEq, and_true] at e0
  subst e0
  have h1 := hf 1 ⟨"N", 3, 1, false, "", "", 16⟩ rfl
  rw [List.getElem?_eq_getElem (show 1 < xs.length by rw [hxl]; decide)] at h1
  obtain ⟨s1, e1, _, o1⟩ := DataW.trod_int Tryz.underlying3 h1
  simp only [k1, List.drop_succ_cons, List.drop_zero, List.take_succ_cons, List.take_zero, List.cons.injEq, and_true] at e1
  subst e1
  exact ⟨⟨s0, s1⟩, rfl, trivial⟩
def OpsOk (W : World) (u : Value) : Prop := ∃ a l c z, u = .slice a l c ∧ RowsAt opVals 2 W (.slice a l c) z
theorem Row_read {H : Type} {enc : TypeId × Value → H} {W : World} (n : Nat) (cs : List Value) (y : DataW H × List MemPlace) (h : DataW.trod enc Tryz.prog W 0 (fun _ => true) true n 86 cs = some y) : ∃ u : Value, cs = [u] ∧ OpsOk W u := by
  rcases Go.Deep.open_slice Tryz.underlying86 h with ⟨hcs, _⟩ | ⟨A, l, c, m, n', D, Pl, hcs, _, hl, hm, hmm, _, hel⟩
  · exact ⟨.slice none 0 0, hcs, none, 0, 0, [], rfl, none, 0, rfl, by simp, by simp, fun _ => rfl, fun i x h => by simp at h⟩
  · subst hcs
    obtain ⟨z, hz, _⟩ := rowsAt_of (k := 2) (vals := opVals) (good := fun _ => True) (a := some A) (len := l) (cap := c) (by decide) Tryz.underlying86 (by kernel_rfl) Op_read (⟨n, h⟩ : DataW.Trod enc Tryz.prog W 0 (fun _ => true) true 86 (.slice (some A) l c) y.1 y.2)
    exact ⟨_, rfl, _, _, _, z, rfl, hz⟩
/-- Lists of lists of ops, as they come in. -/
def IsOps (w : World) (a : Option Addr) (len cap : Nat) (z : List (List ROp)) : Prop :=
  RIn w.heap.size w (.slice a len cap) z ∧ NilOk w (.slice a len cap) ∧ z.length ≤ maxLen ∧ ∀ l ∈ z, l.length ≤ maxLen
theorem isOps_of {H : Type} {enc : TypeId × Value → H} {W : World} {a : Option Addr} {len cap : Nat} {d : DataW H} {p : List MemPlace} (h : DataW.Trod enc Tryz.prog W 0 (fun _ => true) true 22 (.slice a len cap) d p) : ∃ z, IsOps W a len cap z := by
  obtain ⟨us, ⟨a', c', e', hlc, hcm, hn, hx⟩, hg⟩ := rowsAt_of (k := 1) (vals := fun u : Value => [u]) (good := OpsOk W) (by decide) Tryz.underlying22 (by kernel_rfl) Row_read h
  cases e'
  have hch : ∀ u, ∃ z : List ROp, u ∈ us → ∃ a l c, u = .slice a l c ∧ RowsAt opVals 2 W (.slice a l c) z := fun u => by
    by_cases hu : u ∈ us
    · obtain ⟨a, l, c, z, e, hz⟩ := hg u hu
      exact ⟨z, fun _ => ⟨a, l, c, e, hz⟩⟩
    · exact ⟨[], fun h => absurd h hu⟩
  let f := fun u => Classical.choose (hch u)
  have hf : ∀ u ∈ us, ∃ a l c, u = .slice a l c ∧ RowsAt opVals 2 W (.slice a l c) (f u) := fun u hu => Classical.choose_spec (hch u) hu
  have hat : ∀ (i : Nat) u, us[i]? = some u → ∃ b off, a = some ⟨b, off, none⟩ ∧ b < W.heap.size ∧ W.cell? ⟨b, off + i, none⟩ = some u := fun i u hi => by
    obtain ⟨b, off, e, hb, hc⟩ := hx i u hi
    refine ⟨b, off, e, hb, ?_⟩
    have := hc 0 u rfl
    rw [show off + i * 1 + 0 = off + i by omega] at this
    exact this
  refine ⟨us.map f, ⟨a, cap, by rw [List.length_map], fun i l hi => ?_⟩, fun b off n m i k c e hi hc => ?_, by rw [List.length_map]; omega, fun l hl => ?_⟩
  · rw [List.getElem?_map] at hi
    obtain ⟨u, hu, rfl⟩ := Option.map_eq_some_iff.1 hi
    obtain ⟨b, off, e, hb, hc⟩ := hat i u hu
    obtain ⟨ua, ul, uc, rfl, a2, c2, e2, h1, h2, h3, hxx⟩ := hf u (List.mem_of_getElem? hu)
    refine ⟨b, off, _, e, hb, hc, a2, c2, e2, fun j x hj => ?_⟩
    obtain ⟨b2, off2, e3, hb2, hc2⟩ := hxx j x hj
    exact ⟨b2, off2, e3, hb2, hc2 0 _ rfl, hc2 1 _ rfl⟩
  · cases e
    obtain ⟨u, hu⟩ : ∃ u, us[i]? = some u := ⟨_, List.getElem?_eq_getElem hi⟩
    obtain ⟨b2, off2, e, hb, hc'⟩ := hat i u hu
    cases e
    rw [hc] at hc'
    cases hc'
    obtain ⟨ua, ul, uc, e1, a2, c2, e2, h1, h2, h3, hxx⟩ := hf _ (List.mem_of_getElem? hu)
    cases e1
    have e3 := e2
    simp only [Value.slice.injEq] at e3
    exact e3.2.2.trans (h3 e3.1.symm)
  · obtain ⟨u, hu, rfl⟩ := List.mem_map.1 hl
    obtain ⟨ua, ul, uc, rfl, a2, c2, e2, h1, h2, h3, hxx⟩ := hf u hu
    omega
end Go.Proofs.YtppihkneeolomaaGreatDoor
end
/- Rows of blocks: right code. -/
section
namespace Qc
open Qs Qu Qh Go.Proofs.YtppihkneeolomaaGreatDoor
/-- A label's owner: a number. -/
def digB (c : UInt8) : Bool := decide (48 ≤ c) && decide (c ≤ 57)
def OwnBy (j : Nat) (t : List UInt8) : Prop := j < 128 ∧ ∃ s, t = labN j ++ s ∧ (s.takeWhile digB) = []
theorem labN_digs : ∀ j, j < 128 → ((labN j).head? = some 111 ∧ (labN j).tail.all digB = true) := by decide +kernel
def stemOf (t : List UInt8) : List UInt8 := t.tail.takeWhile digB
theorem stem_lab {j : Nat} (hj : j < 128) {s : List UInt8} (hs : s.takeWhile digB = []) : labN j = 111 :: stemOf (labN j ++ s) := by
  obtain ⟨h1, h2⟩ := labN_digs j hj
  cases hl : labN j with
  | nil => rw [hl] at h1; cases h1
  | cons c ds =>
    rw [hl] at h1 h2
    simp only [List.head?_cons, Option.some.injEq] at h1
    simp only [List.tail_cons, List.all_eq_true] at h2
    unfold stemOf
    rw [List.cons_append, List.tail_cons, List.takeWhile_append_of_pos h2, hs, List.append_nil, h1]
theorem OwnBy.inj {i j : Nat} {t : List UInt8} (h1 : OwnBy i t) (h2 : OwnBy j t) : i = j := by
  obtain ⟨hi, s, e1, z1⟩ := h1
  obtain ⟨hj, s', e2, z2⟩ := h2
  have a1 := stem_lab hi z1
  have a2 := stem_lab hj z2
  rw [← e1] at a1
  rw [← e2] at a2
  exact labN_inj i hi j hj (a1.trans a2.symm)
theorem OwnBy.self {j : Nat} (hj : j < 128) : OwnBy j (labN j) := ⟨hj, [], by simp, rfl⟩
/-- A block whose labels have numbers from k + 1 to n. -/
structure BlkF (k n : Nat) (B : List Instr) : Prop where
  ins : ∀ x ∈ B, insFine x = true
  set : ∀ (i : Nat) x, B[i]? = some x → x.op = 17 → labelAt x.to B 0 = some i
  lab : ∀ x ∈ B, x.to ≠ [] → (labelAt x.to B 0).isSome = true
  own : ∀ x ∈ B, x.to = [] ∨ ∃ j, k < j ∧ j ≤ n ∧ OwnBy j x.to
theorem BlkF.ne {k n : Nat} {B : List Instr} (h : BlkF k n B) {x : Instr} (hx : x ∈ B) (h17 : x.op = 17) : x.to ≠ [] :=
  Qh.nameB_ne (insFine_jump (h.ins x hx) (.inr (.inr (.inr h17))))
theorem BlkF.mono {k n k' n' : Nat} {B : List Instr} (h : BlkF k n B) (h1 : k' ≤ k) (h2 : n ≤ n') : BlkF k' n' B :=
  ⟨h.ins, h.set, h.lab, fun x hx => (h.own x hx).imp id fun ⟨j, a, b, c⟩ => ⟨j, by omega, by omega, c⟩⟩
theorem BlkF.append {k m n : Nat} {A B : List Instr} (hA : BlkF k m A) (hB : BlkF m n B) (h1 : k ≤ m) (h2 : m ≤ n) : BlkF k n (A ++ B) := by
  have hdis : ∀ x ∈ B, x.to ≠ [] → ∀ y ∈ A, y.op = 17 → y.to ≠ x.to := fun x hx hne y hy h17 e => by
    rcases hA.own y hy with h | ⟨i, i1, i2, i3⟩
    · exact hA.ne hy h17 h
    · rcases hB.own x hx with h | ⟨j, j1, j2, j3⟩
      · exact hne h
      · rw [e] at i3
        have := i3.inj j3
        omega
  have hlab : ∀ x ∈ B, x.to ≠ [] → ∀ j, labelAt x.to B 0 = some j → labelAt x.to (A ++ B) 0 = some (A.length + j) := fun x hx hne j hj => by
    have := row_label (C := []) (hdis x hx hne) hj
    rw [List.append_nil] at this
    exact this
  refine ⟨fun x hx => ?_, fun i x hi h17 => ?_, fun x hx hne => ?_, fun x hx => ?_⟩
  · rcases List.mem_append.1 hx with h | h
    · exact hA.ins x h
    · exact hB.ins x h
  · by_cases hlt : i < A.length
    · rw [List.getElem?_append_left hlt] at hi
      exact labelAt_first B 0 (hA.set i x hi h17)
    · rw [List.getElem?_append_right (by omega)] at hi
      have hm := List.mem_of_getElem? hi
      rw [hlab x hm (hB.ne hm h17) _ (hB.set _ x hi h17)]
      congr 1; omega
  · rcases List.mem_append.1 hx with h | h
    · obtain ⟨j, hj⟩ := Option.isSome_iff_exists.1 (hA.lab x h hne)
      rw [labelAt_first B 0 hj]; rfl
    · obtain ⟨j, hj⟩ := Option.isSome_iff_exists.1 (hB.lab x h hne)
      rw [hlab x h hne j hj]; rfl
  · rcases List.mem_append.1 hx with h | h
    · exact (hA.own x h).imp id fun ⟨j, a, b, c⟩ => ⟨j, a, by omega, c⟩
    · exact (hB.own x h).imp id fun ⟨j, a, b, c⟩ => ⟨j, by omega, b, c⟩
theorem BlkF.nil (k : Nat) : BlkF k k [] := ⟨fun x hx => (by cases hx), fun i x hi => (by simp at hi), fun x hx => (by cases hx), fun x hx => (by cases hx)⟩
theorem BlkF.fine {k n : Nat} {B : List Instr} (h : BlkF k n B) (hl : B.length ≤ 2000) : CodeFine B := ⟨hl, h.ins, h.set, h.lab⟩
theorem BlkF.of {k n : Nat} {B : List Instr} (h : CodeFine B) (hown : ∀ x ∈ B, x.to = [] ∨ ∃ j, k < j ∧ j ≤ n ∧ OwnBy j x.to) : BlkF k n B := ⟨h.ins, h.set, h.lab, hown⟩
/-- A part of grace. -/
theorem gcode_pre {f j : Nat} (h1 : 1 ≤ f) (h4 : f ≤ 4) (hj : j < 5) : preOk (gcode f j) = true ∧ ((gcode f j).all fun x => x.to.isEmpty || x.to.takeWhile digB == []) = true := by
  have key : ∀ f < 5, ∀ j < 5, 1 ≤ f → (preOk (gcode f j) && (gcode f j).all fun x => x.to.isEmpty || x.to.takeWhile digB == []) = true := by decide +kernel
  have := key f (by omega) j hj h1
  simpa only [Bool.and_eq_true] using this
theorem part_fine {f j : Nat} (h1 : 1 ≤ f) (h4 : f ≤ 4) (hj : j < 5) (k : Nat) (hk : k < 127) : BlkF k (k + 1) (part f k j) := by
  obtain ⟨g1, g2⟩ := gcode_pre h1 h4 hj
  obtain ⟨l1, l2, l3, l4⟩ := labN_facts (k + 1) (by omega)
  refine BlkF.of (preC_fine l3 l2 g1) fun y hy => ?_
  obtain ⟨x, hx, rfl⟩ := List.mem_map.1 hy
  have := List.all_eq_true.1 g2 x hx
  simp only [Bool.or_eq_true, beq_iff_eq] at this
  unfold preI
  simp only
  by_cases he : x.to.isEmpty = true
  · exact .inl (by rw [if_pos he])
  · refine .inr ⟨k + 1, by omega, by omega, by omega, x.to, by rw [if_neg he], this.resolve_left he⟩
theorem later_fine (tn : Nat) (nx : Int) (ht : tn < 8) (hn : 0 ≤ nx ∧ nx < 4) (k : Nat) (hk : k < 127) : BlkF k (k + 1) (laterBlk (labN (k + 1)) tn nx) := by
  have hnm := (labN_facts (k + 1) (by omega)).2.2.1
  have hne := Qh.nameB_ne hnm
  have o1 : OwnBy (k + 1) (labN (k + 1)) := OwnBy.self (by omega)
  generalize hL : labN (k + 1) = L at *
  have r1 : regB ((1 + tn / 4 : Nat) : Int) 4 = true := by unfold regB; simp; omega
  have r2 : regB ((tn % 4 : Nat) : Int) 4 = true := by unfold regB; simp; omega
  have r3 : regB nx 4 = true := by unfold regB; simp; omega
  have hl6 : labelAt L (laterBlk L tn nx) 0 = some 6 := by simp [laterBlk, labelAt]
  refine ⟨fun x hx => ?_, fun i x hi h17 => ?_, fun x hx hxe => ?_, fun x hx => ?_⟩
  · simp only [laterBlk, List.mem_cons, List.not_mem_nil, or_false] at hx
    rcases hx with rfl | rfl | rfl | rfl | rfl | rfl | rfl
    · show (regB 3 8 && z0 0 && z0 0 && nameB L) = true; rw [hnm]; rfl
    · show (regB 2 8 && regB 5 8 && regB ((1 + tn / 4 : Nat) : Int) 4 && true) = true; rw [r1]; rfl
    · show (regB 0 8 && regB 2 8 && regB ((tn % 4 : Nat) : Int) 4 && true) = true; rw [r2]; rfl
    · show (regB 3 8 && regB 0 8 && regB nx 4 && true) = true; rw [r3]; rfl
    · show (regB 2 8 && regB 3 8 && regB ((tn % 4 : Nat) : Int) 4 && true) = true; rw [r2]; rfl
    · rfl
    · show (z0 0 && z0 0 && z0 0 && nameB L) = true; rw [hnm]; rfl
  · match i, hi with
    | 0, hi => cases hi; simp at h17
    | 1, hi => cases hi; simp at h17
    | 2, hi => cases hi; simp at h17
    | 3, hi => cases hi; simp at h17
    | 4, hi => cases hi; simp at h17
    | 5, hi => cases hi; simp at h17
    | 6, hi => cases hi; exact hl6
    | i + 7, hi => simp [laterBlk] at hi
  · simp only [laterBlk, List.mem_cons, List.not_mem_nil, or_false] at hx
    rcases hx with rfl | rfl | rfl | rfl | rfl | rfl | rfl
    all_goals first
      | exact absurd rfl hxe
      | (simp only; rw [hl6]; rfl)
  · simp only [laterBlk, List.mem_cons, List.not_mem_nil, or_false] at hx
    rcases hx with rfl | rfl | rfl | rfl | rfl | rfl | rfl
    all_goals first
      | exact .inl rfl
      | exact .inr ⟨k + 1, by omega, by omega, o1⟩
theorem flush_fine (tn : Nat) (nx : Int) (ht : tn < 8) (hn : 0 ≤ nx ∧ nx < 4) (k : Nat) (hk : k + 2 < 128) : BlkF k (k + 2) (flushTail (labN (k + 1)) (labN (k + 2)) tn nx) := by
  have hnm := (labN_facts (k + 1) (by omega)).2.2.1
  have hnm2 := (labN_facts (k + 2) (by omega)).2.2.1
  have hne := Qh.nameB_ne hnm
  have hne2 := Qh.nameB_ne hnm2
  have hnn : labN (k + 1) ≠ labN (k + 2) := fun e => by have := labN_lab.1 _ _ e; omega
  have o1 : OwnBy (k + 1) (labN (k + 1)) := OwnBy.self (by omega)
  generalize hL : labN (k + 1) = L at *
  have o2 : OwnBy (k + 2) (labN (k + 2)) := OwnBy.self (by omega)
  generalize hM : labN (k + 2) = M at *
  have r1 : regB ((1 + tn / 4 : Nat) : Int) 4 = true := by unfold regB; simp; omega
  have r2 : regB ((tn % 4 : Nat) : Int) 4 = true := by unfold regB; simp; omega
  have r3 : regB nx 4 = true := by unfold regB; simp; omega
  have hl1 : labelAt L (flushTail L M tn nx) 0 = some 1 := by simp [flushTail, labelAt]
  have hl8 : labelAt M (flushTail L M tn nx) 0 = some 8 := by simp [flushTail, labelAt, hnn]
  refine ⟨fun x hx => ?_, fun i x hi h17 => ?_, fun x hx hxe => ?_, fun x hx => ?_⟩
  · simp only [flushTail, List.mem_cons, List.not_mem_nil, or_false] at hx
    rcases hx with rfl | rfl | rfl | rfl | rfl | rfl | rfl | rfl | rfl
    · show (regB 2 8 && regB 5 8 && regB ((1 + tn / 4 : Nat) : Int) 4 && true) = true; rw [r1]; rfl
    · show (z0 0 && z0 0 && z0 0 && nameB L) = true; rw [hnm]; rfl
    · show (regB 0 8 && regB 2 8 && regB ((tn % 4 : Nat) : Int) 4 && true) = true; rw [r2]; rfl
    · show (regB 0 8 && z0 0 && z0 0 && nameB M) = true; rw [hnm2]; rfl
    · show (regB 1 8 && regB 0 8 && regB nx 4 && true) = true; rw [r3]; rfl
    · show (regB 2 8 && regB 1 8 && regB ((tn % 4 : Nat) : Int) 4 && true) = true; rw [r2]; rfl
    · rfl
    · show (z0 0 && z0 0 && z0 0 && nameB L) = true; rw [hnm]; rfl
    · show (z0 0 && z0 0 && z0 0 && nameB M) = true; rw [hnm2]; rfl
  · match i, hi with
    | 0, hi => cases hi; simp at h17
    | 1, hi => cases hi; exact hl1
    | 2, hi => cases hi; simp at h17
    | 3, hi => cases hi; simp at h17
    | 4, hi => cases hi; simp at h17
    | 5, hi => cases hi; simp at h17
    | 6, hi => cases hi; simp at h17
    | 7, hi => cases hi; simp at h17
    | 8, hi => cases hi; exact hl8
    | i + 9, hi => simp [flushTail] at hi
  · simp only [flushTail, List.mem_cons, List.not_mem_nil, or_false] at hx
    rcases hx with rfl | rfl | rfl | rfl | rfl | rfl | rfl | rfl | rfl
    all_goals first
      | exact absurd rfl hxe
      | (simp only; rw [hl1]; rfl)
      | (simp only; rw [hl8]; rfl)
  · simp only [flushTail, List.mem_cons, List.not_mem_nil, or_false] at hx
    rcases hx with rfl | rfl | rfl | rfl | rfl | rfl | rfl | rfl | rfl
    all_goals first
      | exact .inl rfl
      | exact .inr ⟨k + 1, by omega, by omega, o1⟩
      | exact .inr ⟨k + 2, by omega, by omega, o2⟩
theorem flushBlk_fine {f : Nat} (h1 : 1 ≤ f) (h4 : f ≤ 4) (tn : Nat) (nx : Int) (ht : tn < 8) (hn : 0 ≤ nx ∧ nx < 4) (k : Nat) (hk : k + 3 < 128) : BlkF k (k + 3) (flushBlk f k tn nx) :=
  (part_fine h1 h4 (by decide) k (by omega)).append (flush_fine tn nx ht hn (k + 1) (by omega)) (by omega) (by omega)
theorem stop_fine (k : Nat) : BlkF k k [⟨20, 0, 0, 0, []⟩] :=
  ⟨fun x hx => by rw [List.mem_singleton] at hx; subst hx; rfl, fun i x hi h17 => by
    match i, hi with
    | 0, hi => cases hi; simp at h17
    | i + 1, hi => simp at hi, fun x hx hne => by rw [List.mem_singleton] at hx; subst hx; exact absurd rfl hne, fun x hx => by rw [List.mem_singleton] at hx; subst hx; exact .inl rfl⟩
end Qc
end
