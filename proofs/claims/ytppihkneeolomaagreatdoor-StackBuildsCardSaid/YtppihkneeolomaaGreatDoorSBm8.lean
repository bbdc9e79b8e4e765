/- Texts that belong together, joined. -/
import Derived.Test.YtppihkneeolomaaGreatDoorSBm6
import Derived.Test.YtppihkneeolomaaGreatDoorSBm7
import Derived.Test.YtppihkneeolomaaGreatDoorSBGraceB
import Derived.Deep.RegionHeld3
import Derived.Test.YtppihkneeolomaaGreatDoorSBm5
set_option linter.unusedVariables false
set_option linter.unusedSimpArgs false
set_option linter.unusedSectionVars false
/- package grace: flavours; begin. -/
section
namespace Go.Proofs.YtppihkneeolomaaGreatDoor
open Go.RowKit Qs Qh
variable {w0 w w1 : World} {b o : Nat} {v0 : Value} {l : List Instr} {br s : ByteArray} {fe jo co : Bool} {u : Value} {c : Nat}
theorem size_plus2 (s : ByteArray) (a b : UInt8) (hs : s.size ≤ 4) : (s ++ ⟨[a, b].toArray⟩ : ByteArray).size ≤ 100 := by
  rw [ByteArray.size_append]
  have : (⟨[a, b].toArray⟩ : ByteArray).size = 2 := rfl
  omega
theorem flavours1 (w : World) : Calls Tryz.prog 94 #[.int .i64 1] w fun e w' => e = .returned (.tuple #[.agg #[.string ⟨#[102, 101, 110, 99, 101]⟩, .bool true, .bool false, .bool false], .bool true]) ∧ Mod noF w w' := by
  go_enter Tryz.func94, Tryz.ntmps94
  go_wp2
  refine bodyPost_ret (v := .tuple #[.agg #[.string ⟨#[102, 101, 110, 99, 101]⟩, .bool true, .bool false, .bool false], .bool true]) (by simp [results, Tryz.results94, go_sem]) rfl ⟨rfl, ?_⟩
  repeat (first | exact Mod.refl _ _ | refine Mod.drew ?_ | refine Mod.drewN ?_ _ | refine Mod.alloc ?_ _ | refine Mod.setCell ?_ (fun h => absurd h (by simp)) _)
theorem flavours2 (w : World) : Calls Tryz.prog 94 #[.int .i64 2] w fun e w' => e = .returned (.tuple #[.agg #[.string ⟨#[102, 111, 114, 99, 101]⟩, .bool false, .bool false, .bool false], .bool true]) ∧ Mod noF w w' := by
  go_enter Tryz.func94, Tryz.ntmps94
  go_wp2
  refine bodyPost_ret (v := .tuple #[.agg #[.string ⟨#[102, 111, 114, 99, 101]⟩, .bool false, .bool false, .bool false], .bool true]) (by simp [results, Tryz.results94, go_sem]) rfl ⟨rfl, ?_⟩
  repeat (first | exact Mod.refl _ _ | refine Mod.drew ?_ | refine Mod.drewN ?_ _ | refine Mod.alloc ?_ _ | refine Mod.setCell ?_ (fun h => absurd h (by simp)) _)
theorem flavours3 (w : World) : Calls Tryz.prog 94 #[.int .i64 3] w fun e w' => e = .returned (.tuple #[.agg #[.string ⟨#[102, 101, 110, 99, 101]⟩, .bool false, .bool false, .bool true], .bool true]) ∧ Mod noF w w' := by
  go_enter Tryz.func94, Tryz.ntmps94
  go_wp2
  refine bodyPost_ret (v := .tuple #[.agg #[.string ⟨#[102, 101, 110, 99, 101]⟩, .bool false, .bool false, .bool true], .bool true]) (by simp [results, Tryz.results94, go_sem]) rfl ⟨rfl, ?_⟩
  repeat (first | exact Mod.refl _ _ | refine Mod.drew ?_ | refine Mod.drewN ?_ _ | refine Mod.alloc ?_ _ | refine Mod.setCell ?_ (fun h => absurd h (by simp)) _)
theorem flavours4 (w : World) : Calls Tryz.prog 94 #[.int .i64 4] w fun e w' => e = .returned (.tuple #[.agg #[.string ⟨#[102, 101, 110, 99, 101]⟩, .bool true, .bool true, .bool false], .bool true]) ∧ Mod noF w w' := by
  go_enter Tryz.func94, Tryz.ntmps94
  go_wp2
  refine bodyPost_ret (v := .tuple #[.agg #[.string ⟨#[102, 101, 110, 99, 101]⟩, .bool true, .bool true, .bool false], .bool true]) (by simp [results, Tryz.results94, go_sem]) rfl ⟨rfl, ?_⟩
  repeat (first | exact Mod.refl _ _ | refine Mod.drew ?_ | refine Mod.drewN ?_ _ | refine Mod.alloc ?_ _ | refine Mod.setCell ?_ (fun h => absurd h (by simp)) _)
theorem flavours_bad (f : Int) (hf : ¬ (1 ≤ f ∧ f ≤ 4)) (w : World) : Calls Tryz.prog 94 #[.int .i64 f] w fun e w' => e = .returned (.tuple #[.agg #[.string ⟨#[]⟩, .bool false, .bool false, .bool false], .bool false]) ∧ Mod noF w w' := by
  have d1 : (f == 1) = false := by rw [beq_eq_false_iff_ne]; omega
  have d2 : (f == 2) = false := by rw [beq_eq_false_iff_ne]; omega
  have d3 : (f == 3) = false := by rw [beq_eq_false_iff_ne]; omega
  have d4 : (f == 4) = false := by rw [beq_eq_false_iff_ne]; omega
  clear hf
  go_enter Tryz.func94, Tryz.ntmps94
  go_wp2
  refine bodyPost_ret (v := .tuple #[.agg #[.string ⟨#[]⟩, .bool false, .bool false, .bool false], .bool false]) (by simp [results, Tryz.results94, go_sem]) rfl ⟨rfl, ?_⟩
  repeat (first | exact Mod.refl _ _ | refine Mod.drew ?_ | refine Mod.drewN ?_ _ | refine Mod.alloc ?_ _ | refine Mod.setCell ?_ (fun h => absurd h (by simp)) _)
set_option maxHeartbeats 2000000 in
theorem begin1_ok (s : ByteArray) (w : World) (hn : nameB s.data.toList = true) (hs : s.size ≤ 4) :
    Calls Tryz.prog 79 #[.int .i64 1, .string s] w fun e w' => ∃ b, e = .returned (.tuple #[.pointer (some ⟨b, 0, none⟩), .nilIface]) ∧ Mod noF w w' ∧ w.heap.size ≤ b ∧ Emit insT w' b 4 (.slice none 0 0) [] ∧ MkAt w' b (opStr 12) true false false s := by
  have hsz : s.size ≤ maxLen := by unfold maxLen; omega
  have hm : (s.size : Int) ≤ 4 := by omega
  have Hn := Lib.hid hn
  clear hn
  go_enter Tryz.func79, Tryz.ntmps79
  go_wp2_with fail
  refine (flavours1 w).mono ?_
  rintro e w1 ⟨rfl, hm1⟩
  have Hm1 := Lib.hid hm1
  clear hm1
  go_wp2_with (go_at_call 63; refine (prefix_ok s 4 _ hsz Hn.out hm).mono ?_; rintro e w' ⟨rfl, rfl⟩)
  go_ret2
  have hs1 := Hm1.out.size
  exact ⟨w1.heap.size + 1, by simp, (Hm1.out.alloc _).alloc _, by omega, ⟨by simp, by simp, InsRow.nil _ _, by simp [Value.ownBlock], by simp⟩, ⟨by simp; rfl, by simp, by simp, by simp, by simp⟩⟩
set_option maxHeartbeats 2000000 in
theorem begin2_ok (s : ByteArray) (w : World) (hn : nameB s.data.toList = true) (hs : s.size ≤ 4) :
    Calls Tryz.prog 79 #[.int .i64 2, .string s] w fun e w' => ∃ b, e = .returned (.tuple #[.pointer (some ⟨b, 0, none⟩), .nilIface]) ∧ Mod noF w w' ∧ w.heap.size ≤ b ∧ Emit insT w' b 4 (.slice none 0 0) [] ∧ MkAt w' b (opStr 13) false false false s := by
  have hsz : s.size ≤ maxLen := by unfold maxLen; omega
  have hm : (s.size : Int) ≤ 4 := by omega
  have Hn := Lib.hid hn
  clear hn
  go_enter Tryz.func79, Tryz.ntmps79
  go_wp2_with fail
  refine (flavours2 w).mono ?_
  rintro e w1 ⟨rfl, hm1⟩
  have Hm1 := Lib.hid hm1
  clear hm1
  go_wp2_with (go_at_call 63; refine (prefix_ok s 4 _ hsz Hn.out hm).mono ?_; rintro e w' ⟨rfl, rfl⟩)
  go_ret2
  have hs1 := Hm1.out.size
  exact ⟨w1.heap.size + 1, by simp, (Hm1.out.alloc _).alloc _, by omega, ⟨by simp, by simp, InsRow.nil _ _, by simp [Value.ownBlock], by simp⟩, ⟨by simp; rfl, by simp, by simp, by simp, by simp⟩⟩
set_option maxHeartbeats 2000000 in
theorem begin3_ok (s : ByteArray) (w : World) (hn : nameB s.data.toList = true) (hs : s.size ≤ 4) :
    Calls Tryz.prog 79 #[.int .i64 3, .string s] w fun e w' => ∃ b, e = .returned (.tuple #[.pointer (some ⟨b, 0, none⟩), .nilIface]) ∧ Mod noF w w' ∧ w.heap.size ≤ b ∧ Emit insT w' b 4 (.slice none 0 0) [] ∧ MkAt w' b (opStr 12) false false true s := by
  have hsz : s.size ≤ maxLen := by unfold maxLen; omega
  have hm : (s.size : Int) ≤ 4 := by omega
  have Hn := Lib.hid hn
  clear hn
  go_enter Tryz.func79, Tryz.ntmps79
  go_wp2_with fail
  refine (flavours3 w).mono ?_
  rintro e w1 ⟨rfl, hm1⟩
  have Hm1 := Lib.hid hm1
  clear hm1
  go_wp2_with (go_at_call 63; refine (prefix_ok s 4 _ hsz Hn.out hm).mono ?_; rintro e w' ⟨rfl, rfl⟩)
  go_ret2
  have hs1 := Hm1.out.size
  exact ⟨w1.heap.size + 1, by simp, (Hm1.out.alloc _).alloc _, by omega, ⟨by simp, by simp, InsRow.nil _ _, by simp [Value.ownBlock], by simp⟩, ⟨by simp; rfl, by simp, by simp, by simp, by simp⟩⟩
set_option maxHeartbeats 2000000 in
theorem begin4_ok (s : ByteArray) (w : World) (hn : nameB s.data.toList = true) (hs : s.size ≤ 4) :
    Calls Tryz.prog 79 #[.int .i64 4, .string s] w fun e w' => ∃ b, e = .returned (.tuple #[.pointer (some ⟨b, 0, none⟩), .nilIface]) ∧ Mod noF w w' ∧ w.heap.size ≤ b ∧ Emit insT w' b 4 (.slice none 0 0) [] ∧ MkAt w' b (opStr 12) true true false s := by
  have hsz : s.size ≤ maxLen := by unfold maxLen; omega
  have hm : (s.size : Int) ≤ 4 := by omega
  have Hn := Lib.hid hn
  clear hn
  go_enter Tryz.func79, Tryz.ntmps79
  go_wp2_with fail
  refine (flavours4 w).mono ?_
  rintro e w1 ⟨rfl, hm1⟩
  have Hm1 := Lib.hid hm1
  clear hm1
  go_wp2_with (go_at_call 63; refine (prefix_ok s 4 _ hsz Hn.out hm).mono ?_; rintro e w' ⟨rfl, rfl⟩)
  go_ret2
  have hs1 := Hm1.out.size
  exact ⟨w1.heap.size + 1, by simp, (Hm1.out.alloc _).alloc _, by omega, ⟨by simp, by simp, InsRow.nil _ _, by simp [Value.ownBlock], by simp⟩, ⟨by simp; rfl, by simp, by simp, by simp, by simp⟩⟩
end Go.Proofs.YtppihkneeolomaaGreatDoor
end
/- package grace: cells at the beginning. -/
section
namespace Go.Proofs.YtppihkneeolomaaGreatDoor
open Go.RowKit Qs Qh
/-- Four words in a new block. -/
def FourH (w : World) (v : Value) (z : List Int) (w' : World) : Prop := ∃ b, v = .slice (some ⟨b, 0, none⟩) 4 4 ∧ w.heap.size ≤ b ∧ w'.heap[b]? = some (.cells (z.map (Value.int .i64)).toArray 3 (0, 0)) ∧ Mod noF w w'
def ownC (f : Nat) : List Int := [if f = 3 then 1 else 0, 0, 0, 0]
def lkC (f : Nat) : Int := if f = 4 then -1 else 2
theorem hhub1 (w : World) : Calls Tryz.prog 69 #[.int .i64 1] w fun e w' => ∃ v, e = .returned (.tuple #[v, .nilIface]) ∧ FourH w v [1, 0, 0, 0] w' := by
  go_enter Tryz.func69, Tryz.ntmps69
  go_wp2_with fail
  refine (flavours1 w).mono ?_
  rintro e w1 ⟨rfl, hm1⟩
  have hs1 := hm1.size
  have Hm1 := Lib.hid hm1
  clear hm1
  go_wp2
  go_ret2
  exact ⟨_, rfl, _, rfl, by first | omega | (simp; omega), by simpa using heap_alloc_new (w1.alloc (.cells #[.string ⟨#[102, 101, 110, 99, 101]⟩, .bool true, .bool false, .bool false] 139)) (.cells #[.int .i64 1, .int .i64 0, .int .i64 0, .int .i64 0] 3), (by repeat (first | exact Hm1.out | refine Mod.drew ?_ | refine Mod.drewN ?_ _ | refine Mod.alloc ?_ _ | refine Mod.setCell ?_ (fun h => absurd h (by have := Hm1.out.size; simp at *; omega)) _))⟩
theorem hown1 (w : World) : Calls Tryz.prog 71 #[.int .i64 1] w fun e w' => ∃ v, e = .returned (.tuple #[v, .nilIface]) ∧ FourH w v [0, 0, 0, 0] w' := by
  go_enter Tryz.func71, Tryz.ntmps71
  go_wp2_with fail
  refine (flavours1 w).mono ?_
  rintro e w1 ⟨rfl, hm1⟩
  have hs1 := hm1.size
  have Hm1 := Lib.hid hm1
  clear hm1
  go_wp2
  go_ret2
  exact ⟨_, rfl, _, rfl, by first | omega | (simp; omega), by simpa using heap_alloc_new (w1.alloc (.cells #[.string ⟨#[102, 101, 110, 99, 101]⟩, .bool true, .bool false, .bool false] 139)) (.cells #[.int .i64 0, .int .i64 0, .int .i64 0, .int .i64 0] 3), (by repeat (first | exact Hm1.out | refine Mod.drew ?_ | refine Mod.drewN ?_ _ | refine Mod.alloc ?_ _ | refine Mod.setCell ?_ (fun h => absurd h (by have := Hm1.out.size; simp at *; omega)) _))⟩
theorem hlink1 (w : World) : Calls Tryz.prog 70 #[.int .i64 1] w fun e w' => e = .returned (.tuple #[.int .i64 2, .nilIface]) ∧ Mod noF w w' := by
  go_enter Tryz.func70, Tryz.ntmps70
  go_wp2_with fail
  refine (flavours1 w).mono ?_
  rintro e w1 ⟨rfl, hm1⟩
  have hs1 := hm1.size
  have Hm1 := Lib.hid hm1
  clear hm1
  go_wp2
  go_ret2
  exact ⟨rfl, (by repeat (first | exact Hm1.out | refine Mod.drew ?_ | refine Mod.drewN ?_ _ | refine Mod.alloc ?_ _ | refine Mod.setCell ?_ (fun h => absurd h (by have := Hm1.out.size; simp at *; omega)) _))⟩
theorem hhub2 (w : World) : Calls Tryz.prog 69 #[.int .i64 2] w fun e w' => ∃ v, e = .returned (.tuple #[v, .nilIface]) ∧ FourH w v [1, 0, 0, 0] w' := by
  go_enter Tryz.func69, Tryz.ntmps69
  go_wp2_with fail
  refine (flavours2 w).mono ?_
  rintro e w1 ⟨rfl, hm1⟩
  have hs1 := hm1.size
  have Hm1 := Lib.hid hm1
  clear hm1
  go_wp2
  go_ret2
  exact ⟨_, rfl, _, rfl, by first | omega | (simp; omega), by simpa using heap_alloc_new (w1.alloc (.cells #[.string ⟨#[102, 111, 114, 99, 101]⟩, .bool false, .bool false, .bool false] 139)) (.cells #[.int .i64 1, .int .i64 0, .int .i64 0, .int .i64 0] 3), (by repeat (first | exact Hm1.out | refine Mod.drew ?_ | refine Mod.drewN ?_ _ | refine Mod.alloc ?_ _ | refine Mod.setCell ?_ (fun h => absurd h (by have := Hm1.out.size; simp at *; omega)) _))⟩
theorem hown2 (w : World) : Calls Tryz.prog 71 #[.int .i64 2] w fun e w' => ∃ v, e = .returned (.tuple #[v, .nilIface]) ∧ FourH w v [0, 0, 0, 0] w' := by
  go_enter Tryz.func71, Tryz.ntmps71
  go_wp2_with fail
  refine (flavours2 w).mono ?_
  rintro e w1 ⟨rfl, hm1⟩
  have hs1 := hm1.size
  have Hm1 := Lib.hid hm1
  clear hm1
  go_wp2
  go_ret2
  exact ⟨_, rfl, _, rfl, by first | omega | (simp; omega), by simpa using heap_alloc_new (w1.alloc (.cells #[.string ⟨#[102, 111, 114, 99, 101]⟩, .bool false, .bool false, .bool false] 139)) (.cells #[.int .i64 0, .int .i64 0, .int .i64 0, .int .i64 0] 3), (by repeat (first | exact Hm1.out | refine Mod.drew ?_ | refine Mod.drewN ?_ _ | refine Mod.alloc ?_ _ | refine Mod.setCell ?_ (fun h => absurd h (by have := Hm1.out.size; simp at *; omega)) _))⟩
theorem hlink2 (w : World) : Calls Tryz.prog 70 #[.int .i64 2] w fun e w' => e = .returned (.tuple #[.int .i64 2, .nilIface]) ∧ Mod noF w w' := by
  go_enter Tryz.func70, Tryz.ntmps70
  go_wp2_with fail
  refine (flavours2 w).mono ?_
  rintro e w1 ⟨rfl, hm1⟩
  have hs1 := hm1.size
  have Hm1 := Lib.hid hm1
  clear hm1
  go_wp2
  go_ret2
  exact ⟨rfl, (by repeat (first | exact Hm1.out | refine Mod.drew ?_ | refine Mod.drewN ?_ _ | refine Mod.alloc ?_ _ | refine Mod.setCell ?_ (fun h => absurd h (by have := Hm1.out.size; simp at *; omega)) _))⟩
theorem hhub3 (w : World) : Calls Tryz.prog 69 #[.int .i64 3] w fun e w' => ∃ v, e = .returned (.tuple #[v, .nilIface]) ∧ FourH w v [1, 0, 0, 0] w' := by
  go_enter Tryz.func69, Tryz.ntmps69
  go_wp2_with fail
  refine (flavours3 w).mono ?_
  rintro e w1 ⟨rfl, hm1⟩
  have hs1 := hm1.size
  have Hm1 := Lib.hid hm1
  clear hm1
  go_wp2
  go_ret2
  exact ⟨_, rfl, _, rfl, by first | omega | (simp; omega), by simpa using heap_alloc_new (w1.alloc (.cells #[.string ⟨#[102, 101, 110, 99, 101]⟩, .bool false, .bool false, .bool true] 139)) (.cells #[.int .i64 1, .int .i64 0, .int .i64 0, .int .i64 0] 3), (by repeat (first | exact Hm1.out | refine Mod.drew ?_ | refine Mod.drewN ?_ _ | refine Mod.alloc ?_ _ | refine Mod.setCell ?_ (fun h => absurd h (by have := Hm1.out.size; simp at *; omega)) _))⟩
theorem hown3 (w : World) : Calls Tryz.prog 71 #[.int .i64 3] w fun e w' => ∃ v, e = .returned (.tuple #[v, .nilIface]) ∧ FourH w v [1, 0, 0, 0] w' := by
  go_enter Tryz.func71, Tryz.ntmps71
  go_wp2_with fail
  refine (flavours3 w).mono ?_
  rintro e w1 ⟨rfl, hm1⟩
  have hs1 := hm1.size
  have Hm1 := Lib.hid hm1
  clear hm1
  go_wp2
  go_ret2
  exact ⟨_, rfl, _, rfl, by first | omega | (simp; omega), by simpa using heap_alloc_new (w1.alloc (.cells #[.string ⟨#[102, 101, 110, 99, 101]⟩, .bool false, .bool false, .bool true] 139)) (.cells #[.int .i64 1, .int .i64 0, .int .i64 0, .int .i64 0] 3), (by repeat (first | exact Hm1.out | refine Mod.drew ?_ | refine Mod.drewN ?_ _ | refine Mod.alloc ?_ _ | refine Mod.setCell ?_ (fun h => absurd h (by have := Hm1.out.size; simp at *; omega)) _))⟩
theorem hlink3 (w : World) : Calls Tryz.prog 70 #[.int .i64 3] w fun e w' => e = .returned (.tuple #[.int .i64 2, .nilIface]) ∧ Mod noF w w' := by
  go_enter Tryz.func70, Tryz.ntmps70
  go_wp2_with fail
  refine (flavours3 w).mono ?_
  rintro e w1 ⟨rfl, hm1⟩
  have hs1 := hm1.size
  have Hm1 := Lib.hid hm1
  clear hm1
  go_wp2
  go_ret2
  exact ⟨rfl, (by repeat (first | exact Hm1.out | refine Mod.drew ?_ | refine Mod.drewN ?_ _ | refine Mod.alloc ?_ _ | refine Mod.setCell ?_ (fun h => absurd h (by have := Hm1.out.size; simp at *; omega)) _))⟩
theorem hhub4 (w : World) : Calls Tryz.prog 69 #[.int .i64 4] w fun e w' => ∃ v, e = .returned (.tuple #[v, .nilIface]) ∧ FourH w v [1, 0, 0, 0] w' := by
  go_enter Tryz.func69, Tryz.ntmps69
  go_wp2_with fail
  refine (flavours4 w).mono ?_
  rintro e w1 ⟨rfl, hm1⟩
  have hs1 := hm1.size
  have Hm1 := Lib.hid hm1
  clear hm1
  go_wp2
  go_ret2
  exact ⟨_, rfl, _, rfl, by first | omega | (simp; omega), by simpa using heap_alloc_new (w1.alloc (.cells #[.string ⟨#[102, 101, 110, 99, 101]⟩, .bool true, .bool true, .bool false] 139)) (.cells #[.int .i64 1, .int .i64 0, .int .i64 0, .int .i64 0] 3), (by repeat (first | exact Hm1.out | refine Mod.drew ?_ | refine Mod.drewN ?_ _ | refine Mod.alloc ?_ _ | refine Mod.setCell ?_ (fun h => absurd h (by have := Hm1.out.size; simp at *; omega)) _))⟩
theorem hown4 (w : World) : Calls Tryz.prog 71 #[.int .i64 4] w fun e w' => ∃ v, e = .returned (.tuple #[v, .nilIface]) ∧ FourH w v [0, 0, 0, 0] w' := by
  go_enter Tryz.func71, Tryz.ntmps71
  go_wp2_with fail
  refine (flavours4 w).mono ?_
  rintro e w1 ⟨rfl, hm1⟩
  have hs1 := hm1.size
  have Hm1 := Lib.hid hm1
  clear hm1
  go_wp2
  go_ret2
  exact ⟨_, rfl, _, rfl, by first | omega | (simp; omega), by simpa using heap_alloc_new (w1.alloc (.cells #[.string ⟨#[102, 101, 110, 99, 101]⟩, .bool true, .bool true, .bool false] 139)) (.cells #[.int .i64 0, .int .i64 0, .int .i64 0, .int .i64 0] 3), (by repeat (first | exact Hm1.out | refine Mod.drew ?_ | refine Mod.drewN ?_ _ | refine Mod.alloc ?_ _ | refine Mod.setCell ?_ (fun h => absurd h (by have := Hm1.out.size; simp at *; omega)) _))⟩
theorem hlink4 (w : World) : Calls Tryz.prog 70 #[.int .i64 4] w fun e w' => e = .returned (.tuple #[.int .i64 (-1), .nilIface]) ∧ Mod noF w w' := by
  go_enter Tryz.func70, Tryz.ntmps70
  go_wp2_with fail
  refine (flavours4 w).mono ?_
  rintro e w1 ⟨rfl, hm1⟩
  have hs1 := hm1.size
  have Hm1 := Lib.hid hm1
  clear hm1
  go_wp2
  go_ret2
  exact ⟨rfl, (by repeat (first | exact Hm1.out | refine Mod.drew ?_ | refine Mod.drewN ?_ _ | refine Mod.alloc ?_ _ | refine Mod.setCell ?_ (fun h => absurd h (by have := Hm1.out.size; simp at *; omega)) _))⟩
theorem hhub_any {f : Nat} (h1 : 1 ≤ f) (h4 : f ≤ 4) (w : World) : Calls Tryz.prog 69 #[.int .i64 f] w fun e w' => ∃ v, e = .returned (.tuple #[v, .nilIface]) ∧ FourH w v [1, 0, 0, 0] w' := by
  match f, h1, h4 with
  | 1, _, _ => exact hhub1 w
  | 2, _, _ => exact hhub2 w
  | 3, _, _ => exact hhub3 w
  | 4, _, _ => exact hhub4 w
theorem hown_any {f : Nat} (h1 : 1 ≤ f) (h4 : f ≤ 4) (w : World) : Calls Tryz.prog 71 #[.int .i64 f] w fun e w' => ∃ v, e = .returned (.tuple #[v, .nilIface]) ∧ FourH w v (ownC f) w' := by
  match f, h1, h4 with
  | 1, _, _ => exact hown1 w
  | 2, _, _ => exact hown2 w
  | 3, _, _ => exact hown3 w
  | 4, _, _ => exact hown4 w
theorem hlink_any {f : Nat} (h1 : 1 ≤ f) (h4 : f ≤ 4) (w : World) : Calls Tryz.prog 70 #[.int .i64 f] w fun e w' => e = .returned (.tuple #[.int .i64 (lkC f), .nilIface]) ∧ Mod noF w w' := by
  match f, h1, h4 with
  | 1, _, _ => exact hlink1 w
  | 2, _, _ => exact hlink2 w
  | 3, _, _ => exact hlink3 w
  | 4, _, _ => exact hlink4 w
theorem hub_err (f : Int) (hf : ¬ (1 ≤ f ∧ f ≤ 4)) (w : World) (a : Nat → Addr) (E : ErrsAt w a) :
    Calls Tryz.prog 69 #[.int .i64 f] w fun e w' => e = .returned (.tuple #[.slice none 0 0, errV a 1]) ∧ Mod noF w w' := by
  have hev := fun (w1 : World) (h : Mod noF w w1) => (E.keep h).v1
  have hfl := flavours_bad f hf
  unfold errV at hev ⊢
  have Hev := Lib.hid hev
  clear hf E hev
  go_enter Tryz.func69, Tryz.ntmps69
  go_wp2_with fail
  refine (hfl w).mono ?_
  rintro e w1 ⟨rfl, hm1⟩
  have hv0 := Hev.out _ hm1
  have hv := Hev.out _ (hm1.alloc (.cells #[.string ⟨#[]⟩, .bool false, .bool false, .bool false] 139))
  have Hm1 := Lib.hid hm1
  clear hm1
  go_wp2
  go_region
  go_wp2
  go_ret2
  exact ⟨rfl, (by repeat (first | exact Hm1.out | refine Mod.drew ?_ | refine Mod.drewN ?_ _ | refine Mod.alloc ?_ _ | refine Mod.setCell ?_ (fun h => absurd h (by have := Hm1.out.size; simp at *; omega)) _))⟩
end Go.Proofs.YtppihkneeolomaaGreatDoor
end
/- package client: Base.Grace: own cells, a hub, registers that name them. -/
section
namespace Qc
def gOwnC (f t : Nat) : List Int := [if f = 3 then 1 else 0, if f = 4 then 0 else (t : Int), 0, 0]
def gHubC (f n : Nat) : List Int := [1, 0, if f = 4 then 0 else (n : Int), 0]
def gReg0 (_ : Nat) : List Int := [0, 0, 0, 0, 0, 0, 0, 0]
def gReg1 (t : Nat) : List Int := [0, 0, 0, 0, 0, 0, (t : Int) + 1, 0]
def gReg2 (n t : Nat) : List Int := [0, 0, 0, 0, 0, 0, (t : Int) + 1, (n : Int) + 1]
end Qc
namespace Go.Proofs.YtppihkneeolomaaGreatDoor
open Go.RowKit Qs Qh Qc
variable {w wr w1 w2 w' : World} {B lo hi S : Nat} {rv : Value} {rb : Nat → Nat} {rows regs : List (List Int)} {f n : Nat}
/-- Between Grace's steps. -/
structure GrRel (w : World) (B lo hi S : Nat) (rv : Value) (rb : Nat → Nat) (rows regs : List (List Int)) (wr : World) : Prop where
  mod : Mod (fun x => x = B ∨ (lo ≤ x ∧ x < hi)) w wr
  init : ∃ iv ib, BaseAt wr B iv rv ∧ Rws S wr.heap.size wr iv rows ib
  regs : Rws lo hi wr rv regs rb
structure GrOk (w : World) (B lo hi S : Nat) : Prop where
  b : B < lo
  h : lo ≤ hi
  s : hi ≤ S
  w : S ≤ w.heap.size
theorem GrRel.quiet (R : GrRel w B lo hi S rv rb rows regs wr) (P : GrOk w B lo hi S) (h : Mod noF wr w1) : GrRel w B lo hi S rv rb rows regs w1 := by
  obtain ⟨iv, ib, hB, hI⟩ := R.init
  exact ⟨R.mod.trans0 h, ⟨iv, ib, h.heap hB (fun e => e), (hI.keep h (fun _ _ _ e => e)).more h.size⟩, R.regs.keep h (fun _ _ _ e => e)⟩
theorem GrRel.set (R : GrRel w B lo hi S rv rb rows regs wr) (P : GrOk w B lo hi S) {k j : Nat} {l : List Int} {x : Int} (hl : regs[k]? = some l) (hj : j < l.length) :
    GrRel w B lo hi S rv rb rows (regs.set k (l.set j x)) (wr.setCell ⟨rb k, j, none⟩ (.int .i64 x)) := by
  obtain ⟨iv, ib, hB, hI⟩ := R.init
  obtain ⟨R1, hM⟩ := R.regs.set (x := x) hl hj
  have hb := R.regs.bin k l hl (by omega)
  obtain ⟨p1, p2, p3, p4⟩ := P
  have hs : (wr.setCell ⟨rb k, j, none⟩ (.int .i64 x)).heap.size = wr.heap.size := by simp [World.setCell]
  exact ⟨R.mod.trans hM fun x _ e => by rw [e]; exact .inr hb, ⟨iv, ib, hM.heap hB (fun e => by omega), hs ▸ hI.keep hM (fun y h1 h2 e => by omega)⟩, R1⟩
end Go.Proofs.YtppihkneeolomaaGreatDoor
end
/- package client: Base.Grace: its walk. -/
section
namespace Go.Proofs.YtppihkneeolomaaGreatDoor
open Go.RowKit Qs Qh Qc
variable {w wr w1 w2 w' : World} {B lo hi S : Nat} {rv iv : Value} {rb : Nat → Nat} {rows regs : List (List Int)} {f n : Nat}
theorem ownCn (hf : ¬ f = 4) (k : Nat) : (ownC f).set 1 (k : Int) = gOwnC f k := by unfold ownC gOwnC; rw [if_neg hf]; rfl
theorem hubCn (hf : ¬ f = 4) (n : Nat) : ([1, 0, 0, 0] : List Int).set 2 (n : Int) = gHubC f n := by unfold gHubC; rw [if_neg hf]; rfl
theorem set_row {w : World} {g : Nat} {l : List Int} {T : TypeId} (h : w.heap[g]? = some (.cells (l.map (Value.int .i64)).toArray T (0, 0))) (j : Nat) (x : Int) : (w.setCell ⟨g, j, none⟩ (.int .i64 x)).heap[g]? = some (.cells ((l.set j x).map (Value.int .i64)).toArray T (0, 0)) := by
  rw [Qh.heap_setCell_same h]
  congr 2
  simp [List.map_set]
set_option maxRecDepth 4000 in
set_option maxHeartbeats 16000000 in
theorem grace_ok (h1 : 1 ≤ f) (h4 : f ≤ 4) (hn1 : 1 ≤ n) (hn : n ≤ 6) (hB : BaseAt w B (.slice none 0 0) rv) (R : Rws lo hi w rv (List.replicate n z8) rb) (hBl : B < lo) (hlh : lo ≤ hi) (hhi : hi ≤ w.heap.size) :
    Calls Tryz.prog 44 #[.pointer (some ⟨B, 0, none⟩), .int .i64 (f : Nat)] w fun e w' => e = .returned .nilIface ∧ ∃ iv ib, BaseAt w' B iv rv ∧ Rws lo hi w' rv (rowsF (gReg2 n) n) rb ∧ Rws w.heap.size w'.heap.size w' iv (rowsF (gOwnC f) n ++ [gHubC f n]) ib ∧ Mod (fun x => x = B ∨ (lo ≤ x ∧ x < hi)) w w' := by
  have hub := hhub_any h1 h4 w
  have hlk := fun w => hlink_any h1 h4 w
  have how := fun w => hown_any h1 h4 w
  have HB := Lib.hid hB
  have HR := Lib.hid R
  have Hub := Lib.hid hub
  have Hlk := Lib.hid hlk
  have How := Lib.hid how
  obtain ⟨ra, rc, hrv, -⟩ := R.cell
  rw [List.length_replicate] at hrv
  subst hrv
  clear hB R hub hlk how
  go_enter Tryz.func44, Tryz.ntmps44
  go_wp2_with fail
  refine Hub.out.mono ?_
  rintro e w1 ⟨v, rfl, gh, rfl, hgh, hhc, hm1⟩
  have Hm1 := Lib.hid hm1
  have Hhc := Lib.hid hhc
  clear hm1 hhc Hub
  go_wp2_with fail
  refine (Hlk.out w1).mono ?_
  rintro e w2 ⟨rfl, hm2⟩
  have hm02 := Hm1.out.trans0 hm2
  have hs2 := hm2.size
  have hs1 := lt_of_block Hhc.out
  have hsw := hm02.size
  have hB2 := hm02.heap HB.out (fun e => e)
  have b2 : w2.cell? ⟨B, 2, none⟩ = some (.slice ra n rc) := by rw [cell_of_heap hB2]; rfl
  have hgh2 : gh < w2.heap.size := by omega
  have P : GrOk w2 B lo hi w2.heap.size := ⟨hBl, hlh, by omega, Nat.le_refl _⟩
  have HP := Lib.hid P
  have hR0 : GrRel w2 B lo hi w2.heap.size (.slice ra n rc) rb (rowsF (gOwnC f) 0) (rowsF (mixF gReg1 gReg0 0) n) w2 := by
    refine ⟨Mod.refl _ _, ⟨_, fun _ => 0, hB2, Rws.nil _ _ _ _⟩, ?_⟩
    rw [mix_zero, show gReg0 = fun _ => z8 from rfl, ← rows_replicate]
    exact HR.out.keep hm02 (fun _ _ _ e => e)
  have Hh2 := Lib.hid (hm2.heap Hhc.out (fun e => e))
  have Hm02 := Lib.hid hm02
  have HR0 := Lib.hid hR0
  clear hm2 hm02 hB2 P hR0 Hm1 Hhc
  generalize hlkv : lkC f = lk at *
  go_wp2
  go_loopw [9, 34] (fun c i wr => ∃ k : Nat, k ≤ n ∧ c = .int .i64 k ∧ i = .int .i64 k ∧ GrRel w2 B lo hi w2.heap.size (.slice ra n rc) rb (rowsF (gOwnC f) k) (rowsF (mixF gReg1 gReg0 k) n) wr) (fun _ i _ => n - (intOf i).toNat)
  case atStart => exact ⟨0, Nat.zero_le _, rfl, rfl, HR0.out⟩
  case round =>
    generalize wr = wo at *
    obtain ⟨k, hk, rfl, rfl, hG⟩ := hrel
    by_cases hlt : k < n
    · have hd : decide ((k : Int) < (n : Int)) = true := by simp; omega
      have hki : (k : Int) < (n : Int) := by omega
      have HG := Lib.hid hG
      clear hG
      go_wp2_with fail
      refine (How.out wo).mono ?_
      rintro e w3 ⟨v, rfl, g, rfl, hg, hc, hm3⟩
      obtain ⟨iv, ib, hB, hI⟩ := HG.out.init
      have hso : w2.heap.size ≤ wo.heap.size := HG.out.mod.size
      have hs3 := hm3.size
      have hB3 := hm3.heap hB (fun e => e)
      have hI3 := hI.keep hm3 (fun _ _ _ e => e)
      have hR3 := HG.out.regs.keep hm3 (fun _ _ _ e => e)
      have hM3 := HG.out.mod.trans0 hm3
      have hgl := lt_of_block hc
      have Hso := Lib.hid hso
      have Hg := Lib.hid hg
      by_cases hf4 : f = 4
      · obtain rfl : lk = -1 := by rw [← hlkv, hf4]; rfl
        have hrow : w3.heap[g]? = some (.cells ((gOwnC f k).map (Value.int .i64)).toArray 3 (0, 0)) := by subst hf4; exact hc
        have Hrow := Lib.hid hrow
        have HBq := Lib.hid hB3
        have HIq := Lib.hid hI3
        have HRq := Lib.hid hR3
        have HMq := Lib.hid hM3
        have Hsq := Lib.hid hs3
        clear hB hI hB3 hI3 hR3 hM3 hc hrow hs3 hso hg hm3 hlkv HG hf4
        go_wp2_with fail
        refine (cell_ok (l := gOwnC f k) (r := g) HBq.out HIq.out (by have := Hsq.out; omega) (by have := Hsq.out; have := Hso.out; omega) (by omega) (by rw [rowsF_len]; omega) (fun h => ⟨Hg.out, by have := Hso.out; have := Hg.out; omega⟩) (fun h => Hrow.out)).mono ?_
        rintro e w5 ⟨rfl, iv5, hB5, ⟨ib5, hI5⟩, hm5⟩
        rw [rowsF_push] at hI5
        rw [rowsF_len]
        have hvi := HIq.out.vin
        have hG5 : GrRel w2 B lo hi w2.heap.size (.slice ra n rc) rb (rowsF (gOwnC f) (k + 1)) (rowsF (mixF gReg1 gReg0 k) n) w5 := by
          refine ⟨HMq.out.trans hm5 fun x hx e => ?_, ⟨iv5, ib5, hB5, hI5⟩, HRq.out.keep hm5 fun x y1 y2 e => ?_⟩
          · rcases e with e | e
            · exact .inl e
            · have := (hvi x e).1; omega
          · rcases e with e | e
            · omega
            · have := (hvi x e).1; omega
        obtain ⟨ra', rc', hrv', hrx⟩ := hG5.regs.cell
        rw [rowsF_len] at hrv'
        cases hrv'
        obtain ⟨gb, rfl, hgb, hrk⟩ := hrx k (gReg0 k) (mix_get hlt)
        have hrow := hG5.regs.row k _ (mix_get hlt) (by simp [gReg0, gReg1])
        have b2 : w5.cell? ⟨B, 2, none⟩ = some (.slice (some ⟨gb, 0, none⟩) n rc) := by rw [cell_of_heap hB5]; rfl
        have b3 : w5.cell? ⟨gb, k, none⟩ = some (.slice (some ⟨rb k, 0, none⟩) 8 8) := hrk
        have b4 : w5.cell? ⟨rb k, 6, none⟩ = some (.int .i64 0) := by rw [cell_of_heap hrow]; rfl
        have b5 := free_of_heap hrow 6
        have hset := hG5.set HP.out (k := k) (j := 6) (x := (k : Int) + 1) (mix_get hlt) (by simp [gReg0])
        rw [show (gReg0 k).set 6 ((k : Int) + 1) = gReg1 k from rfl, mix_set hlt] at hset
        have Hset := Lib.hid hset
        clear hG5 hrx hrk hrow hset hB5 hI5 hm5 hvi
        go_wp2
        go_roundw
        case rel => exact ⟨k + 1, by omega, by go_num, by go_num, Hset.out⟩
        case measure => simp [intOf]; omega
      · obtain rfl : lk = 2 := by rw [← hlkv]; unfold lkC; rw [if_neg hf4]
        have q1 : w3.cell? ⟨g, 1, none⟩ = some (.int .i64 0) := by rw [cell_of_heap hc]; rfl
        have q2 := free_of_heap hc 1
        have hMs : Mod (fun x => x = g) w3 (w3.setCell ⟨g, 1, none⟩ (.int .i64 k)) := (Mod.refl (fun x => x = g) w3).setCell (fun _ => rfl) _
        have hrow := set_row hc 1 (k : Int)
        rw [ownCn hf4 k] at hrow
        have Hrow := Lib.hid hrow
        have HBq := Lib.hid (hMs.heap hB3 (fun e => by have := lt_of_block hB; omega))
        have HIq := Lib.hid (hI3.keep hMs (fun x y1 y2 e => by omega))
        have HRq := Lib.hid (hR3.keep hMs (fun x y1 y2 e => by omega))
        have HMq := Lib.hid (hM3.trans hMs (fun x hx e => by omega))
        have Hsq := Lib.hid (Nat.le_trans hs3 hMs.size)
        clear hB hI hB3 hI3 hR3 hM3 hc hrow hs3 hso hg hm3 hMs hlkv HG hf4
        go_wp2_with fail
        refine (cell_ok (l := gOwnC f k) (r := g) HBq.out HIq.out (by have := Hsq.out; omega) (by have := Hsq.out; have := Hso.out; omega) (by omega) (by rw [rowsF_len]; omega) (fun h => ⟨Hg.out, by have := Hso.out; have := Hg.out; omega⟩) (fun h => Hrow.out)).mono ?_
        rintro e w5 ⟨rfl, iv5, hB5, ⟨ib5, hI5⟩, hm5⟩
        rw [rowsF_push] at hI5
        rw [rowsF_len]
        have hvi := HIq.out.vin
        have hG5 : GrRel w2 B lo hi w2.heap.size (.slice ra n rc) rb (rowsF (gOwnC f) (k + 1)) (rowsF (mixF gReg1 gReg0 k) n) w5 := by
          refine ⟨HMq.out.trans hm5 fun x hx e => ?_, ⟨iv5, ib5, hB5, hI5⟩, HRq.out.keep hm5 fun x y1 y2 e => ?_⟩
          · rcases e with e | e
            · exact .inl e
            · have := (hvi x e).1; omega
          · rcases e with e | e
            · omega
            · have := (hvi x e).1; omega
        obtain ⟨ra', rc', hrv', hrx⟩ := hG5.regs.cell
        rw [rowsF_len] at hrv'
        cases hrv'
        obtain ⟨gb, rfl, hgb, hrk⟩ := hrx k (gReg0 k) (mix_get hlt)
        have hrow := hG5.regs.row k _ (mix_get hlt) (by simp [gReg0, gReg1])
        have b2 : w5.cell? ⟨B, 2, none⟩ = some (.slice (some ⟨gb, 0, none⟩) n rc) := by rw [cell_of_heap hB5]; rfl
        have b3 : w5.cell? ⟨gb, k, none⟩ = some (.slice (some ⟨rb k, 0, none⟩) 8 8) := hrk
        have b4 : w5.cell? ⟨rb k, 6, none⟩ = some (.int .i64 0) := by rw [cell_of_heap hrow]; rfl
        have b5 := free_of_heap hrow 6
        have hset := hG5.set HP.out (k := k) (j := 6) (x := (k : Int) + 1) (mix_get hlt) (by simp [gReg0])
        rw [show (gReg0 k).set 6 ((k : Int) + 1) = gReg1 k from rfl, mix_set hlt] at hset
        have Hset := Lib.hid hset
        clear hG5 hrx hrk hrow hset hB5 hI5 hm5 hvi
        go_wp2
        go_roundw
        case rel => exact ⟨k + 1, by omega, by go_num, by go_num, Hset.out⟩
        case measure => simp [intOf]; omega
    · have hd : decide ((k : Int) < (n : Int)) = false := by simp; omega
      obtain rfl : n = k := by omega
      have HG := Lib.hid hG
      clear hG
      obtain ⟨iv, ib, hB, hI⟩ := HG.out.init
      have hso : w2.heap.size ≤ wo.heap.size := HG.out.mod.size
      have hhub := HG.out.mod.heap Hh2.out (fun e => by omega)
      have hR3 := HG.out.regs
      rw [mix_all] at hR3
      have hM3 : Qh.Mod (fun x => x = B ∨ (lo ≤ x ∧ x < hi)) w wo := Hm02.out.any.trans HG.out.mod (fun x _ e => e)
      have Hso := Lib.hid hso
      by_cases hf4 : f = 4
      · obtain rfl : lk = -1 := by rw [← hlkv, hf4]; rfl
        have hrow : wo.heap[gh]? = some (.cells ((gHubC f n).map (Value.int .i64)).toArray 3 (0, 0)) := by subst hf4; exact hhub
        have Hrow := Lib.hid hrow
        have HBq := Lib.hid hB
        have HIq := Lib.hid hI
        have HRq := Lib.hid hR3
        have HMq := Lib.hid hM3
        have Hsq := Lib.hid (Nat.le_refl wo.heap.size)
        clear hB hI hR3 hM3 hhub hrow hso hlkv HG hf4
        go_wp2_with fail
        refine (cell_ok0 (lo0 := w.heap.size) (l := gHubC f n) (r := gh) (by omega) HBq.out HIq.out (by have := Hsq.out; omega) (by have := Hsq.out; have := Hso.out; omega) (by omega) (by rw [rowsF_len]; omega) (fun h => ⟨hgh, by omega, .inr hgh2⟩) (fun h => Hrow.out)).mono ?_
        rintro e w5 ⟨rfl, iv5, hB5, ⟨ib5, hI5⟩, hm5⟩
        rw [rowsF_len]
        have hvi := HIq.out.vin
        have hP2 : GrOk w B lo hi w.heap.size := ⟨hBl, hlh, hhi, Nat.le_refl _⟩
        have HP2 := Lib.hid hP2
        have hG5 : GrRel w B lo hi w.heap.size (.slice ra n rc) rb (rowsF (gOwnC f) n ++ [gHubC f n]) (rowsF (mixF (gReg2 n) gReg1 0) n) w5 := by
          refine ⟨HMq.out.trans hm5 fun x hx e => ?_, ⟨iv5, ib5, hB5, hI5⟩, ?_⟩
          · rcases e with e | e
            · exact .inl e
            · have := (hvi x e).1; omega
          · rw [mix_zero]
            refine HRq.out.keep hm5 fun x y1 y2 e => ?_
            rcases e with e | e
            · omega
            · have := (hvi x e).1; omega
        have HG5 := Lib.hid hG5
        have b2 : w5.cell? ⟨B, 2, none⟩ = some (.slice ra n rc) := by rw [cell_of_heap hB5]; rfl
        clear hG5 hB5 hI5 hm5 hvi hP2
        go_wp2
        go_loopw [76] (fun i wr => ∃ k : Nat, k ≤ n ∧ i = .int .i64 k ∧ GrRel w B lo hi w.heap.size (.slice ra n rc) rb (rowsF (gOwnC f) n ++ [gHubC f n]) (rowsF (mixF (gReg2 n) gReg1 k) n) wr) (fun i _ => n - (intOf i).toNat)
        case atStart => exact ⟨0, Nat.zero_le _, rfl, HG5.out⟩
        case round =>
          generalize wr = w6 at *
          obtain ⟨k, hk, rfl, hG5⟩ := hrel
          by_cases hlt : k < n
          · have hd : decide ((k : Int) < (n : Int)) = true := by simp; omega
            have hki : (k : Int) < (n : Int) := by omega
            obtain ⟨iv6, ib6, hB5, hI6⟩ := hG5.init
            clear b2
            obtain ⟨ra', rc', hrv', hrx⟩ := hG5.regs.cell
            rw [rowsF_len] at hrv'
            cases hrv'
            obtain ⟨gb, rfl, hgb, hrk⟩ := hrx k (gReg1 k) (mix_get hlt)
            have hrow := hG5.regs.row k _ (mix_get hlt) (by simp [gReg0, gReg1])
            have b2 : w6.cell? ⟨B, 2, none⟩ = some (.slice (some ⟨gb, 0, none⟩) n rc) := by rw [cell_of_heap hB5]; rfl
            have b3 : w6.cell? ⟨gb, k, none⟩ = some (.slice (some ⟨rb k, 0, none⟩) 8 8) := hrk
            have b4 : w6.cell? ⟨rb k, 7, none⟩ = some (.int .i64 0) := by rw [cell_of_heap hrow]; rfl
            have b5 := free_of_heap hrow 7
            have hset := hG5.set HP2.out (k := k) (j := 7) (x := (n : Int) + 1) (mix_get hlt) (by simp [gReg1])
            rw [show (gReg1 k).set 7 ((n : Int) + 1) = gReg2 n k from rfl, mix_set hlt] at hset
            have Hset := Lib.hid hset
            clear hG5 hrx hrk hrow hset hB5 hI6
            go_wp2
            go_roundw
            case rel => exact ⟨k + 1, by omega, by go_num, Hset.out⟩
            case measure => simp [intOf]; omega
          · have hd : decide ((k : Int) < (n : Int)) = false := by simp; omega
            obtain rfl : n = k := by omega
            have HGf := Lib.hid hG5
            clear hG5 b2
            go_wp2
            go_ret
            obtain ⟨iv6, ib6, hB6, hI6⟩ := HGf.out.init
            refine ⟨rfl, iv6, ib6, hB6, ?_, hI6, HGf.out.mod⟩
            have := HGf.out.regs
            rw [mix_all] at this
            exact this
      · obtain rfl : lk = 2 := by rw [← hlkv]; unfold lkC; rw [if_neg hf4]
        have q1 : wo.cell? ⟨gh, 2, none⟩ = some (.int .i64 0) := by rw [cell_of_heap hhub]; rfl
        have q2 := free_of_heap hhub 2
        have hMs : Mod (fun x => x = gh) wo (wo.setCell ⟨gh, 2, none⟩ (.int .i64 (n : Int))) := (Mod.refl (fun x => x = gh) wo).setCell (fun _ => rfl) _
        have hrow := set_row hhub 2 (n : Int)
        rw [hubCn hf4 n] at hrow
        have Hrow := Lib.hid hrow
        have HBq := Lib.hid (hMs.heap hB (fun e => by omega))
        have HIq := Lib.hid (hI.keep hMs (fun x y1 y2 e => by omega))
        have HRq := Lib.hid (hR3.keep hMs (fun x y1 y2 e => by omega))
        have HMq := Lib.hid (hM3.trans hMs (fun x hx e => by omega))
        have Hsq := Lib.hid hMs.size
        clear hB hI hR3 hM3 hhub hrow hso hMs hlkv HG hf4
        go_wp2_with fail
        refine (cell_ok0 (lo0 := w.heap.size) (l := gHubC f n) (r := gh) (by omega) HBq.out HIq.out (by have := Hsq.out; omega) (by have := Hsq.out; have := Hso.out; omega) (by omega) (by rw [rowsF_len]; omega) (fun h => ⟨hgh, by omega, .inr hgh2⟩) (fun h => Hrow.out)).mono ?_
        rintro e w5 ⟨rfl, iv5, hB5, ⟨ib5, hI5⟩, hm5⟩
        rw [rowsF_len]
        have hvi := HIq.out.vin
        have hP2 : GrOk w B lo hi w.heap.size := ⟨hBl, hlh, hhi, Nat.le_refl _⟩
        have HP2 := Lib.hid hP2
        have hG5 : GrRel w B lo hi w.heap.size (.slice ra n rc) rb (rowsF (gOwnC f) n ++ [gHubC f n]) (rowsF (mixF (gReg2 n) gReg1 0) n) w5 := by
          refine ⟨HMq.out.trans hm5 fun x hx e => ?_, ⟨iv5, ib5, hB5, hI5⟩, ?_⟩
          · rcases e with e | e
            · exact .inl e
            · have := (hvi x e).1; omega
          · rw [mix_zero]
            refine HRq.out.keep hm5 fun x y1 y2 e => ?_
            rcases e with e | e
            · omega
            · have := (hvi x e).1; omega
        have HG5 := Lib.hid hG5
        have b2 : w5.cell? ⟨B, 2, none⟩ = some (.slice ra n rc) := by rw [cell_of_heap hB5]; rfl
        clear hG5 hB5 hI5 hm5 hvi hP2
        go_wp2
        go_loopw [76] (fun i wr => ∃ k : Nat, k ≤ n ∧ i = .int .i64 k ∧ GrRel w B lo hi w.heap.size (.slice ra n rc) rb (rowsF (gOwnC f) n ++ [gHubC f n]) (rowsF (mixF (gReg2 n) gReg1 k) n) wr) (fun i _ => n - (intOf i).toNat)
        case atStart => exact ⟨0, Nat.zero_le _, rfl, HG5.out⟩
        case round =>
          generalize wr = w6 at *
          obtain ⟨k, hk, rfl, hG5⟩ := hrel
          by_cases hlt : k < n
          · have hd : decide ((k : Int) < (n : Int)) = true := by simp; omega
            have hki : (k : Int) < (n : Int) := by omega
            obtain ⟨iv6, ib6, hB5, hI6⟩ := hG5.init
            clear b2
            obtain ⟨ra', rc', hrv', hrx⟩ := hG5.regs.cell
            rw [rowsF_len] at hrv'
            cases hrv'
            obtain ⟨gb, rfl, hgb, hrk⟩ := hrx k (gReg1 k) (mix_get hlt)
            have hrow := hG5.regs.row k _ (mix_get hlt) (by simp [gReg0, gReg1])
            have b2 : w6.cell? ⟨B, 2, none⟩ = some (.slice (some ⟨gb, 0, none⟩) n rc) := by rw [cell_of_heap hB5]; rfl
            have b3 : w6.cell? ⟨gb, k, none⟩ = some (.slice (some ⟨rb k, 0, none⟩) 8 8) := hrk
            have b4 : w6.cell? ⟨rb k, 7, none⟩ = some (.int .i64 0) := by rw [cell_of_heap hrow]; rfl
            have b5 := free_of_heap hrow 7
            have hset := hG5.set HP2.out (k := k) (j := 7) (x := (n : Int) + 1) (mix_get hlt) (by simp [gReg1])
            rw [show (gReg1 k).set 7 ((n : Int) + 1) = gReg2 n k from rfl, mix_set hlt] at hset
            have Hset := Lib.hid hset
            clear hG5 hrx hrk hrow hset hB5 hI6
            go_wp2
            go_roundw
            case rel => exact ⟨k + 1, by omega, by go_num, Hset.out⟩
            case measure => simp [intOf]; omega
          · have hd : decide ((k : Int) < (n : Int)) = false := by simp; omega
            obtain rfl : n = k := by omega
            have HGf := Lib.hid hG5
            clear hG5 b2
            go_wp2
            go_ret
            obtain ⟨iv6, ib6, hB6, hI6⟩ := HGf.out.init
            refine ⟨rfl, iv6, ib6, hB6, ?_, hI6, HGf.out.mod⟩
            have := HGf.out.regs
            rw [mix_all] at this
            exact this
end Go.Proofs.YtppihkneeolomaaGreatDoor
end
/- Build's state between its steps, in plain: any rows. -/
section
namespace Go.Proofs.YtppihkneeolomaaGreatDoor
open Go.RowKit Qs Qh Qc
/-- Behind rows set and k codes made. -/
structure BldRel (w : World) (p : Plc) (iv rv : Value) (rb ib : Nat → Nat) (cs : Nat → List Instr) (ini regs : List (List Int)) (k : Nat) (cv : Value) (vk : Nat → Value) (wr : World) : Prop where
  mod : Mod noF w wr
  size : p.S ≤ wr.heap.size
  res : wr.heap[p.T2]? = some (.cells #[.int .i64 0, .slice none 0 0, .slice none 0 0] 32 (0, 0))
  base : BaseAt wr p.B iv rv
  regs : Rws p.lo1 p.hi1 wr rv regs rb
  init : Rws p.lo2 p.hi2 wr iv ini ib
  cds : Cds p.S wr cv cs k vk
variable {w wr w1 : World} {p : Plc} {iv rv cv cv' u : Value} {rb ib : Nat → Nat} {cs : Nat → List Instr} {ini regs : List (List Int)} {kr k j : Nat} {vk : Nat → Value} {l : List Int} {x : Int}
theorem BldRel.quiet (R : BldRel w p iv rv rb ib cs ini regs k cv vk wr) (h : Mod noF wr w1) : BldRel w p iv rv rb ib cs ini regs k cv vk w1 :=
  ⟨R.mod.trans0 h, Nat.le_trans R.size h.size, h.heap R.res (fun e => e), h.heap R.base (fun e => e), R.regs.keep h (fun _ _ _ e => e), R.init.keep h (fun _ _ _ e => e), R.cds.keep h (fun _ _ _ e => e)⟩
theorem BldRel.store (R : BldRel w p iv rv rb ib cs ini regs k cv vk wr) (P : p.Ok w) (hl : regs[kr]? = some l) (hj : j < l.length) : BldRel w p iv rv rb ib cs ini (regs.set kr (l.set j x)) k cv vk (wr.setCell ⟨rb kr, j, none⟩ (.int .i64 x)) ∧ wr.heap[rb kr]? = some (.cells (l.map (Value.int .i64)).toArray 3 (0, 0)) ∧ p.lo1 ≤ rb kr := by
  obtain ⟨R1, hM⟩ := R.regs.set (x := x) (j := j) hl hj
  have hb := R.regs.bin kr l hl (by omega)
  have hP := P
  obtain ⟨p1, p2, p3, p4, p5, p6, p7⟩ := hP
  refine ⟨⟨R.mod.trans hM fun x hx e => ?_, Nat.le_trans R.size hM.size, hM.heap R.res (fun e => ?_), hM.heap R.base (fun e => ?_), R1, R.init.keep hM (fun x h1 h2 e => ?_), R.cds.keep hM (fun x h1 h2 e => ?_)⟩, R.regs.row kr l hl (by omega), hb.1⟩
  all_goals omega
theorem BldRel.push (R : BldRel w p iv rv rb ib cs ini regs k cv vk wr) (P : p.Ok w) (hc : CodeAt wr u (cs k)) (hu : ∀ g, u.ownBlock = some g → p.S ≤ g ∧ g < wr.heap.size ∧ cv.ownBlock ≠ some g)
    (hown : w1.ownsRow 0 71 1 cv' (k + 1) ((List.range k).map vk ++ [u])) (hg : wr.grownBy w1 cv.ownBlock) (hfr : ∀ g, cv'.ownBlock = some g → cv.ownBlock = some g ∨ wr.heap.size ≤ g) :
    BldRel w p iv rv rb ib cs ini regs (k + 1) cv' (fun i => if i = k then u else vk i) w1 := by
  have hM : Mod (fun x => cv.ownBlock = some x) wr w1 := (Mod.refl (fun x => cv.ownBlock = some x) wr).grown hg fun j hj _ => hj
  have hcv := R.cds.vin
  obtain ⟨p1, p2, p3, p4, p5, p6, p7⟩ := P
  refine ⟨R.mod.trans hM fun x hx e => ?_, Nat.le_trans R.size hM.size, hM.heap R.res (fun e => ?_), hM.heap R.base (fun e => ?_), R.regs.keep hM (fun x h1 h2 e => ?_), R.init.keep hM (fun x h1 h2 e => ?_), R.cds.push R.size hc hu hown hg hfr⟩
  all_goals have := hcv _ e; omega
end Go.Proofs.YtppihkneeolomaaGreatDoor
end
/- The code of package grace, flavour by flavour, plain. -/
section
namespace Go.Proofs.YtppihkneeolomaaGreatDoor
open Go.RowKit Qs Qh
variable {w0 w w1 : World} {b o : Nat} {v0 : Value} {l : List Instr} {br s : ByteArray} {fe jo co : Bool} {u : Value} {c : Nat}
def gc10 : List Instr := [⟨6, 0, 6, 0, []⟩, ⟨0, 1, 255, 0, []⟩, ⟨4, 1, 0, 1, []⟩, ⟨14, 1, 0, 0, [46, 97]⟩, ⟨0, 1, 1, 0, []⟩, ⟨2, 0, 0, 1, []⟩, ⟨7, 6, 0, 0, []⟩, ⟨16, 0, 0, 0, [46, 98]⟩, ⟨17, 0, 0, 0, [46, 97]⟩, ⟨6, 0, 7, 0, []⟩, ⟨7, 6, 0, 0, []⟩, ⟨12, 0, 0, 0, []⟩, ⟨17, 0, 0, 0, [46, 98]⟩]
def gc11 : List Instr := [⟨12, 0, 0, 0, []⟩, ⟨6, 0, 6, 0, []⟩, ⟨0, 1, 1, 0, []⟩, ⟨3, 0, 0, 1, []⟩, ⟨7, 6, 0, 0, []⟩]
def gc12 : List Instr := []
def gc13 : List Instr := []
def gc14 : List Instr := [⟨12, 0, 0, 0, []⟩, ⟨17, 0, 0, 0, [116, 46, 97]⟩, ⟨0, 0, 0, 0, []⟩, ⟨0, 1, 1, 0, []⟩, ⟨9, 7, 0, 1, []⟩, ⟨14, 0, 0, 0, [116, 46, 98]⟩, ⟨16, 0, 0, 0, [116, 46, 97]⟩, ⟨17, 0, 0, 0, [116, 46, 98]⟩, ⟨6, 0, 7, 0, []⟩, ⟨0, 1, 256, 0, []⟩, ⟨5, 0, 0, 1, []⟩, ⟨7, 7, 0, 0, []⟩, ⟨12, 0, 0, 0, []⟩, ⟨6, 2, 7, 2, []⟩, ⟨17, 0, 0, 0, [46, 120, 108]⟩, ⟨14, 2, 0, 0, [46, 120, 111]⟩, ⟨17, 0, 0, 0, [46, 120, 115]⟩, ⟨6, 0, 2, 0, []⟩, ⟨0, 1, 255, 0, []⟩, ⟨4, 1, 0, 1, []⟩, ⟨14, 1, 0, 0, [46, 120, 110]⟩, ⟨6, 1, 7, 0, []⟩, ⟨5, 1, 0, 1, []⟩, ⟨0, 0, 256, 0, []⟩, ⟨4, 1, 1, 0, []⟩, ⟨14, 1, 0, 0, [46, 120, 110]⟩, ⟨16, 0, 0, 0, [46, 120, 115]⟩, ⟨17, 0, 0, 0, [46, 120, 110]⟩, ⟨6, 2, 2, 1, []⟩, ⟨16, 0, 0, 0, [46, 120, 108]⟩, ⟨17, 0, 0, 0, [46, 120, 111]⟩, ⟨6, 0, 7, 0, []⟩, ⟨0, 1, 256, 0, []⟩, ⟨5, 0, 0, 1, []⟩, ⟨7, 7, 0, 0, []⟩, ⟨12, 0, 0, 0, []⟩, ⟨6, 2, 7, 2, []⟩, ⟨17, 0, 0, 0, [46, 121, 108]⟩, ⟨14, 2, 0, 0, [46, 121, 111]⟩, ⟨17, 0, 0, 0, [46, 121, 115]⟩, ⟨6, 0, 2, 0, []⟩, ⟨0, 1, 255, 0, []⟩, ⟨4, 1, 0, 1, []⟩, ⟨14, 1, 0, 0, [46, 121, 110]⟩, ⟨6, 1, 7, 0, []⟩, ⟨5, 1, 0, 1, []⟩, ⟨0, 0, 256, 0, []⟩, ⟨4, 1, 1, 0, []⟩, ⟨14, 1, 0, 0, [46, 121, 110]⟩, ⟨16, 0, 0, 0, [46, 121, 115]⟩, ⟨17, 0, 0, 0, [46, 121, 110]⟩, ⟨6, 2, 2, 1, []⟩, ⟨16, 0, 0, 0, [46, 121, 108]⟩, ⟨17, 0, 0, 0, [46, 121, 111]⟩, ⟨12, 0, 0, 0, []⟩, ⟨0, 0, 0, 0, []⟩, ⟨7, 7, 0, 1, []⟩, ⟨12, 0, 0, 0, []⟩]
def gc20 : List Instr := [⟨6, 0, 6, 0, []⟩, ⟨0, 1, 255, 0, []⟩, ⟨4, 1, 0, 1, []⟩, ⟨14, 1, 0, 0, [46, 97]⟩, ⟨0, 1, 1, 0, []⟩, ⟨2, 0, 0, 1, []⟩, ⟨7, 6, 0, 0, []⟩, ⟨16, 0, 0, 0, [46, 98]⟩, ⟨17, 0, 0, 0, [46, 97]⟩, ⟨6, 0, 7, 0, []⟩, ⟨7, 6, 0, 0, []⟩, ⟨17, 0, 0, 0, [46, 98]⟩]
def gc21 : List Instr := [⟨6, 0, 6, 0, []⟩, ⟨0, 1, 1, 0, []⟩, ⟨3, 0, 0, 1, []⟩, ⟨7, 6, 0, 0, []⟩]
def gc22 : List Instr := []
def gc23 : List Instr := []
def gc24 : List Instr := [⟨13, 0, 0, 0, []⟩, ⟨17, 0, 0, 0, [116, 46, 97]⟩, ⟨0, 0, 0, 0, []⟩, ⟨0, 1, 1, 0, []⟩, ⟨9, 7, 0, 1, []⟩, ⟨14, 0, 0, 0, [116, 46, 98]⟩, ⟨16, 0, 0, 0, [116, 46, 97]⟩, ⟨17, 0, 0, 0, [116, 46, 98]⟩, ⟨6, 0, 7, 0, []⟩, ⟨0, 1, 256, 0, []⟩, ⟨5, 0, 0, 1, []⟩, ⟨7, 7, 0, 0, []⟩, ⟨13, 0, 0, 0, []⟩, ⟨6, 2, 7, 2, []⟩, ⟨17, 0, 0, 0, [46, 120, 108]⟩, ⟨14, 2, 0, 0, [46, 120, 111]⟩, ⟨17, 0, 0, 0, [46, 120, 115]⟩, ⟨6, 0, 2, 0, []⟩, ⟨0, 1, 255, 0, []⟩, ⟨4, 1, 0, 1, []⟩, ⟨14, 1, 0, 0, [46, 120, 110]⟩, ⟨6, 1, 7, 0, []⟩, ⟨5, 1, 0, 1, []⟩, ⟨0, 0, 256, 0, []⟩, ⟨4, 1, 1, 0, []⟩, ⟨14, 1, 0, 0, [46, 120, 110]⟩, ⟨16, 0, 0, 0, [46, 120, 115]⟩, ⟨17, 0, 0, 0, [46, 120, 110]⟩, ⟨6, 2, 2, 1, []⟩, ⟨16, 0, 0, 0, [46, 120, 108]⟩, ⟨17, 0, 0, 0, [46, 120, 111]⟩, ⟨6, 0, 7, 0, []⟩, ⟨0, 1, 256, 0, []⟩, ⟨5, 0, 0, 1, []⟩, ⟨7, 7, 0, 0, []⟩, ⟨13, 0, 0, 0, []⟩, ⟨6, 2, 7, 2, []⟩, ⟨17, 0, 0, 0, [46, 121, 108]⟩, ⟨14, 2, 0, 0, [46, 121, 111]⟩, ⟨17, 0, 0, 0, [46, 121, 115]⟩, ⟨6, 0, 2, 0, []⟩, ⟨0, 1, 255, 0, []⟩, ⟨4, 1, 0, 1, []⟩, ⟨14, 1, 0, 0, [46, 121, 110]⟩, ⟨6, 1, 7, 0, []⟩, ⟨5, 1, 0, 1, []⟩, ⟨0, 0, 256, 0, []⟩, ⟨4, 1, 1, 0, []⟩, ⟨14, 1, 0, 0, [46, 121, 110]⟩, ⟨16, 0, 0, 0, [46, 121, 115]⟩, ⟨17, 0, 0, 0, [46, 121, 110]⟩, ⟨6, 2, 2, 1, []⟩, ⟨16, 0, 0, 0, [46, 121, 108]⟩, ⟨17, 0, 0, 0, [46, 121, 111]⟩, ⟨13, 0, 0, 0, []⟩, ⟨0, 0, 0, 0, []⟩, ⟨7, 7, 0, 1, []⟩, ⟨12, 0, 0, 0, []⟩]
def gc30 : List Instr := []
def gc31 : List Instr := []
def gc32 : List Instr := [⟨6, 0, 7, 0, []⟩, ⟨7, 6, 0, 0, []⟩, ⟨12, 0, 0, 0, []⟩]
def gc33 : List Instr := [⟨0, 0, 0, 0, []⟩, ⟨7, 6, 0, 0, []⟩, ⟨12, 0, 0, 0, []⟩]
def gc34 : List Instr := [⟨0, 0, 0, 0, []⟩, ⟨7, 6, 0, 0, []⟩, ⟨12, 0, 0, 0, []⟩, ⟨17, 0, 0, 0, [116, 46, 97]⟩, ⟨0, 0, 0, 0, []⟩, ⟨0, 1, 1, 0, []⟩, ⟨9, 7, 0, 1, []⟩, ⟨14, 0, 0, 0, [116, 46, 98]⟩, ⟨16, 0, 0, 0, [116, 46, 97]⟩, ⟨17, 0, 0, 0, [116, 46, 98]⟩, ⟨6, 0, 7, 0, []⟩, ⟨0, 1, 2, 0, []⟩, ⟨2, 0, 0, 1, []⟩, ⟨7, 7, 0, 0, []⟩, ⟨12, 0, 0, 0, []⟩, ⟨6, 2, 7, 2, []⟩, ⟨17, 0, 0, 0, [46, 120, 108]⟩, ⟨14, 2, 0, 0, [46, 120, 111]⟩, ⟨17, 0, 0, 0, [46, 120, 115]⟩, ⟨6, 0, 2, 0, []⟩, ⟨14, 0, 0, 0, [46, 120, 110]⟩, ⟨6, 1, 7, 0, []⟩, ⟨15, 0, 1, 0, [46, 120, 110]⟩, ⟨16, 0, 0, 0, [46, 120, 115]⟩, ⟨17, 0, 0, 0, [46, 120, 110]⟩, ⟨6, 2, 2, 1, []⟩, ⟨16, 0, 0, 0, [46, 120, 108]⟩, ⟨17, 0, 0, 0, [46, 120, 111]⟩, ⟨0, 0, 0, 0, []⟩, ⟨7, 7, 0, 1, []⟩, ⟨12, 0, 0, 0, []⟩, ⟨6, 0, 7, 0, []⟩, ⟨7, 6, 0, 0, []⟩, ⟨12, 0, 0, 0, []⟩]
def gc40 : List Instr := [⟨6, 0, 6, 2, []⟩, ⟨14, 0, 0, 0, [46, 106]⟩, ⟨16, 0, 0, 0, [46, 107]⟩, ⟨17, 0, 0, 0, [46, 106]⟩, ⟨17, 0, 0, 0, [116, 46, 97]⟩, ⟨0, 0, 0, 0, []⟩, ⟨0, 1, 1, 0, []⟩, ⟨9, 7, 0, 1, []⟩, ⟨14, 0, 0, 0, [116, 46, 98]⟩, ⟨16, 0, 0, 0, [116, 46, 97]⟩, ⟨17, 0, 0, 0, [116, 46, 98]⟩, ⟨6, 0, 7, 2, []⟩, ⟨7, 6, 0, 1, []⟩, ⟨7, 7, 6, 2, []⟩, ⟨0, 0, 1, 0, []⟩, ⟨7, 6, 0, 2, []⟩, ⟨0, 0, 0, 0, []⟩, ⟨7, 7, 0, 1, []⟩, ⟨12, 0, 0, 0, []⟩, ⟨17, 0, 0, 0, [46, 107]⟩, ⟨6, 0, 6, 0, []⟩, ⟨0, 1, 255, 0, []⟩, ⟨4, 1, 0, 1, []⟩, ⟨14, 1, 0, 0, [46, 97]⟩, ⟨0, 1, 1, 0, []⟩, ⟨2, 0, 0, 1, []⟩, ⟨7, 6, 0, 0, []⟩, ⟨16, 0, 0, 0, [46, 98]⟩, ⟨17, 0, 0, 0, [46, 97]⟩, ⟨6, 0, 7, 0, []⟩, ⟨7, 6, 0, 0, []⟩, ⟨12, 0, 0, 0, []⟩, ⟨17, 0, 0, 0, [46, 98]⟩]
def gc41 : List Instr := [⟨12, 0, 0, 0, []⟩, ⟨6, 0, 6, 0, []⟩, ⟨0, 1, 1, 0, []⟩, ⟨3, 0, 0, 1, []⟩, ⟨7, 6, 0, 0, []⟩]
def gc42 : List Instr := []
def gc43 : List Instr := []
def gc44 : List Instr := [⟨12, 0, 0, 0, []⟩, ⟨17, 0, 0, 0, [116, 46, 97]⟩, ⟨0, 0, 0, 0, []⟩, ⟨0, 1, 1, 0, []⟩, ⟨9, 7, 0, 1, []⟩, ⟨14, 0, 0, 0, [116, 46, 98]⟩, ⟨16, 0, 0, 0, [116, 46, 97]⟩, ⟨17, 0, 0, 0, [116, 46, 98]⟩, ⟨6, 0, 7, 0, []⟩, ⟨0, 1, 256, 0, []⟩, ⟨5, 0, 0, 1, []⟩, ⟨7, 7, 0, 0, []⟩, ⟨12, 0, 0, 0, []⟩, ⟨6, 2, 7, 2, []⟩, ⟨17, 0, 0, 0, [46, 120, 108]⟩, ⟨14, 2, 0, 0, [46, 120, 111]⟩, ⟨17, 0, 0, 0, [46, 120, 115]⟩, ⟨6, 0, 2, 0, []⟩, ⟨0, 1, 255, 0, []⟩, ⟨4, 1, 0, 1, []⟩, ⟨14, 1, 0, 0, [46, 120, 110]⟩, ⟨6, 1, 7, 0, []⟩, ⟨5, 1, 0, 1, []⟩, ⟨0, 0, 256, 0, []⟩, ⟨4, 1, 1, 0, []⟩, ⟨14, 1, 0, 0, [46, 120, 110]⟩, ⟨16, 0, 0, 0, [46, 120, 115]⟩, ⟨17, 0, 0, 0, [46, 120, 110]⟩, ⟨6, 2, 2, 1, []⟩, ⟨16, 0, 0, 0, [46, 120, 108]⟩, ⟨17, 0, 0, 0, [46, 120, 111]⟩, ⟨6, 0, 7, 0, []⟩, ⟨0, 1, 256, 0, []⟩, ⟨5, 0, 0, 1, []⟩, ⟨7, 7, 0, 0, []⟩, ⟨12, 0, 0, 0, []⟩, ⟨6, 2, 7, 2, []⟩, ⟨17, 0, 0, 0, [46, 121, 108]⟩, ⟨14, 2, 0, 0, [46, 121, 111]⟩, ⟨17, 0, 0, 0, [46, 121, 115]⟩, ⟨6, 0, 2, 0, []⟩, ⟨0, 1, 255, 0, []⟩, ⟨4, 1, 0, 1, []⟩, ⟨14, 1, 0, 0, [46, 121, 110]⟩, ⟨6, 1, 7, 0, []⟩, ⟨5, 1, 0, 1, []⟩, ⟨0, 0, 256, 0, []⟩, ⟨4, 1, 1, 0, []⟩, ⟨14, 1, 0, 0, [46, 121, 110]⟩, ⟨16, 0, 0, 0, [46, 121, 115]⟩, ⟨17, 0, 0, 0, [46, 121, 110]⟩, ⟨6, 2, 2, 1, []⟩, ⟨16, 0, 0, 0, [46, 121, 108]⟩, ⟨17, 0, 0, 0, [46, 121, 111]⟩, ⟨12, 0, 0, 0, []⟩, ⟨0, 0, 0, 0, []⟩, ⟨7, 7, 0, 1, []⟩, ⟨12, 0, 0, 0, []⟩]
def gcode (f k : Nat) : List Instr := match f, k with
  | 1, 0 => gc10
  | 1, 1 => gc11
  | 1, 2 => gc12
  | 1, 3 => gc13
  | 1, 4 => gc14
  | 2, 0 => gc20
  | 2, 1 => gc21
  | 2, 2 => gc22
  | 2, 3 => gc23
  | 2, 4 => gc24
  | 3, 0 => gc30
  | 3, 1 => gc31
  | 3, 2 => gc32
  | 3, 3 => gc33
  | 3, 4 => gc34
  | 4, 0 => gc40
  | 4, 1 => gc41
  | 4, 2 => gc42
  | 4, 3 => gc43
  | 4, 4 => gc44
  | _, _ => []
theorem genter1_eq (s : ByteArray) : [] ++ ([⟨6, 0, 6, 0, []⟩, ⟨0, 1, 255, 0, []⟩, ⟨4, 1, 0, 1, []⟩, ⟨14, 1, 0, 0, s.data.toList ++ [46, 97]⟩, ⟨0, 1, 1, 0, []⟩, ⟨2, 0, 0, 1, []⟩, ⟨7, 6, 0, 0, []⟩, ⟨16, 0, 0, 0, s.data.toList ++ [46, 98]⟩, ⟨17, 0, 0, 0, s.data.toList ++ [46, 97]⟩, ⟨6, 0, 7, 0, []⟩, ⟨7, 6, 0, 0, []⟩, ⟨12, 0, 0, 0, []⟩, ⟨17, 0, 0, 0, s.data.toList ++ [46, 98]⟩]) = preC s.data.toList gc10 := by
  simp [preC, preI, gc10, takeCode, giveCode, joinCode, awayCode, eachCode, turnGo, waitGo, turnCode, List.append_assoc]
theorem gleave1_eq (s : ByteArray) : [] ++ ([⟨12, 0, 0, 0, []⟩, ⟨6, 0, 6, 0, []⟩, ⟨0, 1, 1, 0, []⟩, ⟨3, 0, 0, 1, []⟩, ⟨7, 6, 0, 0, []⟩]) = preC s.data.toList gc11 := by
  simp [preC, preI, gc11, takeCode, giveCode, joinCode, awayCode, eachCode, turnGo, waitGo, turnCode, List.append_assoc]
theorem gwait1_eq (s : ByteArray) : [] ++ ([⟨12, 0, 0, 0, []⟩] ++ (takeCode (s.data.toList ++ [116]) 7 1 0 ++ (turnCode 12 (s ++ ⟨#[46, 120]⟩) ++ (turnCode 12 (s ++ ⟨#[46, 121]⟩) ++ ([⟨12, 0, 0, 0, []⟩] ++ (giveCode 7 1 0)))))) = preC s.data.toList gc14 := by
  simp [preC, preI, gc14, takeCode, giveCode, joinCode, awayCode, eachCode, turnGo, waitGo, turnCode, List.append_assoc]
theorem genter2_eq (s : ByteArray) : [] ++ ([⟨6, 0, 6, 0, []⟩, ⟨0, 1, 255, 0, []⟩, ⟨4, 1, 0, 1, []⟩, ⟨14, 1, 0, 0, s.data.toList ++ [46, 97]⟩, ⟨0, 1, 1, 0, []⟩, ⟨2, 0, 0, 1, []⟩, ⟨7, 6, 0, 0, []⟩, ⟨16, 0, 0, 0, s.data.toList ++ [46, 98]⟩, ⟨17, 0, 0, 0, s.data.toList ++ [46, 97]⟩, ⟨6, 0, 7, 0, []⟩, ⟨7, 6, 0, 0, []⟩, ⟨17, 0, 0, 0, s.data.toList ++ [46, 98]⟩]) = preC s.data.toList gc20 := by
  simp [preC, preI, gc20, takeCode, giveCode, joinCode, awayCode, eachCode, turnGo, waitGo, turnCode, List.append_assoc]
theorem gleave2_eq (s : ByteArray) : [] ++ ([⟨6, 0, 6, 0, []⟩, ⟨0, 1, 1, 0, []⟩, ⟨3, 0, 0, 1, []⟩, ⟨7, 6, 0, 0, []⟩]) = preC s.data.toList gc21 := by
  simp [preC, preI, gc21, takeCode, giveCode, joinCode, awayCode, eachCode, turnGo, waitGo, turnCode, List.append_assoc]
theorem gwait2_eq (s : ByteArray) : [] ++ ([⟨13, 0, 0, 0, []⟩] ++ (takeCode (s.data.toList ++ [116]) 7 1 0 ++ (turnCode 13 (s ++ ⟨#[46, 120]⟩) ++ (turnCode 13 (s ++ ⟨#[46, 121]⟩) ++ ([⟨13, 0, 0, 0, []⟩] ++ (giveCode 7 1 0)))))) = preC s.data.toList gc24 := by
  simp [preC, preI, gc24, takeCode, giveCode, joinCode, awayCode, eachCode, turnGo, waitGo, turnCode, List.append_assoc]
theorem grest3_eq (s : ByteArray) : [] ++ ([⟨6, 0, 7, 0, []⟩, ⟨7, 6, 0, 0, []⟩, ⟨12, 0, 0, 0, []⟩]) = preC s.data.toList gc32 := by
  simp [preC, preI, gc32, takeCode, giveCode, joinCode, awayCode, eachCode, turnGo, waitGo, turnCode, List.append_assoc]
theorem ggone3_eq (s : ByteArray) : [] ++ (awayCode) = preC s.data.toList gc33 := by
  simp [preC, preI, gc33, takeCode, giveCode, joinCode, awayCode, eachCode, turnGo, waitGo, turnCode, List.append_assoc]
theorem gwait3_eq (s : ByteArray) : [] ++ (awayCode ++ (takeCode (s.data.toList ++ [116]) 7 1 0 ++ ([⟨6, 0, 7, 0, []⟩, ⟨0, 1, 2, 0, []⟩, ⟨2, 0, 0, 1, []⟩, ⟨7, 7, 0, 0, []⟩, ⟨12, 0, 0, 0, []⟩] ++ (eachCode (waitGo s) (s ++ ⟨#[46, 120]⟩) ++ (giveCode 7 1 0 ++ ([⟨6, 0, 7, 0, []⟩, ⟨7, 6, 0, 0, []⟩, ⟨12, 0, 0, 0, []⟩])))))) = preC s.data.toList gc34 := by
  simp [preC, preI, gc34, takeCode, giveCode, joinCode, awayCode, eachCode, turnGo, waitGo, turnCode, List.append_assoc]
theorem genter4_eq (s : ByteArray) : [] ++ (joinCode s ++ ([⟨6, 0, 6, 0, []⟩, ⟨0, 1, 255, 0, []⟩, ⟨4, 1, 0, 1, []⟩, ⟨14, 1, 0, 0, s.data.toList ++ [46, 97]⟩, ⟨0, 1, 1, 0, []⟩, ⟨2, 0, 0, 1, []⟩, ⟨7, 6, 0, 0, []⟩, ⟨16, 0, 0, 0, s.data.toList ++ [46, 98]⟩, ⟨17, 0, 0, 0, s.data.toList ++ [46, 97]⟩, ⟨6, 0, 7, 0, []⟩, ⟨7, 6, 0, 0, []⟩, ⟨12, 0, 0, 0, []⟩, ⟨17, 0, 0, 0, s.data.toList ++ [46, 98]⟩])) = preC s.data.toList gc40 := by
  simp [preC, preI, gc40, takeCode, giveCode, joinCode, awayCode, eachCode, turnGo, waitGo, turnCode, List.append_assoc]
theorem gleave4_eq (s : ByteArray) : [] ++ ([⟨12, 0, 0, 0, []⟩, ⟨6, 0, 6, 0, []⟩, ⟨0, 1, 1, 0, []⟩, ⟨3, 0, 0, 1, []⟩, ⟨7, 6, 0, 0, []⟩]) = preC s.data.toList gc41 := by
  simp [preC, preI, gc41, takeCode, giveCode, joinCode, awayCode, eachCode, turnGo, waitGo, turnCode, List.append_assoc]
theorem gwait4_eq (s : ByteArray) : [] ++ ([⟨12, 0, 0, 0, []⟩] ++ (takeCode (s.data.toList ++ [116]) 7 1 0 ++ (turnCode 12 (s ++ ⟨#[46, 120]⟩) ++ (turnCode 12 (s ++ ⟨#[46, 121]⟩) ++ ([⟨12, 0, 0, 0, []⟩] ++ (giveCode 7 1 0)))))) = preC s.data.toList gc44 := by
  simp [preC, preI, gc44, takeCode, giveCode, joinCode, awayCode, eachCode, turnGo, waitGo, turnCode, List.append_assoc]
end Go.Proofs.YtppihkneeolomaaGreatDoor
end
/- package grace, flavour 1: its code, made. -/
section
namespace Go.Proofs.YtppihkneeolomaaGreatDoor
open Go.RowKit Qs Qh
variable {w0 w w1 : World} {b o : Nat} {v0 : Value} {l : List Instr} {br s : ByteArray} {fe jo co : Bool} {u : Value} {c : Nat}
set_option maxRecDepth 4000 in
set_option maxHeartbeats 8000000 in
theorem genter1_ok (s : ByteArray) (w : World) (hn : nameB s.data.toList = true) (hs : s.size ≤ 4) :
    Calls Tryz.prog 75 #[.int .i64 1, .string s] w fun e w' => ∃ v, e = .returned (.tuple #[v, .nilIface]) ∧ Made (preC s.data.toList gc10) w v w' := by
  have Hn := Lib.hid hn
  clear hn
  go_enter Tryz.func75, Tryz.ntmps75
  go_wp2_with fail
  refine (begin1_ok s w Hn.out hs).mono ?_
  rintro e x0 ⟨b, rfl, hm, hb, E, M⟩
  have HC := Lib.hid (Chain.start E)
  have HM := Lib.hid M
  have Hm := Lib.hid hm
  clear hm E M
  have h0 := (HC.out.mk HM.out).c0
  have h1 := (HC.out.mk HM.out).c1
  have h2 := (HC.out.mk HM.out).c2
  have h3 := (HC.out.mk HM.out).c3
  go_wp2_with fail
  refine (op3_chain (HC.out.quiet ((Mod.refl _ _).alloc _)) (by first | omega | simp) 6 _ rfl x0.heap.size 0 6 0 3 (by simp) (by simp) (by simp) (by simp)).mono ?_
  clear h0 h1 h2 h3
  rintro e x1 ⟨rfl, C⟩
  have HC1 := Lib.hid C
  clear C
  have h0 := (HC1.out.mk HM.out).c0
  have h1 := (HC1.out.mk HM.out).c1
  have h2 := (HC1.out.mk HM.out).c2
  have h3 := (HC1.out.mk HM.out).c3
  go_wp2_with fail
  refine (op2_chain (HC1.out.quiet ((Mod.refl _ _).alloc _)) (by simp [takeCode, giveCode, joinCode, awayCode, eachCode, turnGo, waitGo, turnCode] <;> omega) 0 _ rfl x1.heap.size 1 255 2 (by simp) (by simp) (by simp)).mono ?_
  clear h0 h1 h2 h3
  rintro e x2 ⟨rfl, C⟩
  have HC2 := Lib.hid C
  clear C
  have h0 := (HC2.out.mk HM.out).c0
  have h1 := (HC2.out.mk HM.out).c1
  have h2 := (HC2.out.mk HM.out).c2
  have h3 := (HC2.out.mk HM.out).c3
  go_wp2_with fail
  refine (op3_chain (HC2.out.quiet ((Mod.refl _ _).alloc _)) (by simp [takeCode, giveCode, joinCode, awayCode, eachCode, turnGo, waitGo, turnCode] <;> omega) 4 _ rfl x2.heap.size 1 0 1 3 (by simp) (by simp) (by simp) (by simp)).mono ?_
  clear h0 h1 h2 h3
  rintro e x3 ⟨rfl, C⟩
  have HC3 := Lib.hid C
  clear C
  have h0 := (HC3.out.mk HM.out).c0
  have h1 := (HC3.out.mk HM.out).c1
  have h2 := (HC3.out.mk HM.out).c2
  have h3 := (HC3.out.mk HM.out).c3
  go_wp2_with fail
  refine (to1_chain (HC3.out.quiet ((Mod.refl _ _).alloc _)) (by simp [takeCode, giveCode, joinCode, awayCode, eachCode, turnGo, waitGo, turnCode] <;> omega) 14 _ rfl (s.data.toList ++ [46, 97]) _ (bytes_cat s _) x3.heap.size 1 1 (by simp) (by simp)).mono ?_
  clear h0 h1 h2 h3
  rintro e x4 ⟨rfl, C⟩
  have HC4 := Lib.hid C
  clear C
  have h0 := (HC4.out.mk HM.out).c0
  have h1 := (HC4.out.mk HM.out).c1
  have h2 := (HC4.out.mk HM.out).c2
  have h3 := (HC4.out.mk HM.out).c3
  go_wp2_with fail
  refine (op2_chain (HC4.out.quiet ((Mod.refl _ _).alloc _)) (by simp [takeCode, giveCode, joinCode, awayCode, eachCode, turnGo, waitGo, turnCode] <;> omega) 0 _ rfl x4.heap.size 1 1 2 (by simp) (by simp) (by simp)).mono ?_
  clear h0 h1 h2 h3
  rintro e x5 ⟨rfl, C⟩
  have HC5 := Lib.hid C
  clear C
  have h0 := (HC5.out.mk HM.out).c0
  have h1 := (HC5.out.mk HM.out).c1
  have h2 := (HC5.out.mk HM.out).c2
  have h3 := (HC5.out.mk HM.out).c3
  go_wp2_with fail
  refine (op3_chain (HC5.out.quiet ((Mod.refl _ _).alloc _)) (by simp [takeCode, giveCode, joinCode, awayCode, eachCode, turnGo, waitGo, turnCode] <;> omega) 2 _ rfl x5.heap.size 0 0 1 3 (by simp) (by simp) (by simp) (by simp)).mono ?_
  clear h0 h1 h2 h3
  rintro e x6 ⟨rfl, C⟩
  have HC6 := Lib.hid C
  clear C
  have h0 := (HC6.out.mk HM.out).c0
  have h1 := (HC6.out.mk HM.out).c1
  have h2 := (HC6.out.mk HM.out).c2
  have h3 := (HC6.out.mk HM.out).c3
  go_wp2_with fail
  refine (op3_chain (HC6.out.quiet ((Mod.refl _ _).alloc _)) (by simp [takeCode, giveCode, joinCode, awayCode, eachCode, turnGo, waitGo, turnCode] <;> omega) 7 _ rfl x6.heap.size 6 0 0 3 (by simp) (by simp) (by simp) (by simp)).mono ?_
  clear h0 h1 h2 h3
  rintro e x7 ⟨rfl, C⟩
  have HC7 := Lib.hid C
  clear C
  have h0 := (HC7.out.mk HM.out).c0
  have h1 := (HC7.out.mk HM.out).c1
  have h2 := (HC7.out.mk HM.out).c2
  have h3 := (HC7.out.mk HM.out).c3
  go_wp2_with fail
  refine (to0_chain HC7.out (by simp [takeCode, giveCode, joinCode, awayCode, eachCode, turnGo, waitGo, turnCode] <;> omega) 16 _ rfl (s.data.toList ++ [46, 98]) _ (bytes_cat s _)).mono ?_
  clear h0 h1 h2 h3
  rintro e x8 ⟨rfl, C⟩
  have HC8 := Lib.hid C
  clear C
  have h0 := (HC8.out.mk HM.out).c0
  have h1 := (HC8.out.mk HM.out).c1
  have h2 := (HC8.out.mk HM.out).c2
  have h3 := (HC8.out.mk HM.out).c3
  go_wp2_with fail
  refine (label_chain HC8.out (by simp [takeCode, giveCode, joinCode, awayCode, eachCode, turnGo, waitGo, turnCode] <;> omega) (s.data.toList ++ [46, 97]) _ (bytes_cat s _)).mono ?_
  clear h0 h1 h2 h3
  rintro e x9 ⟨rfl, C⟩
  have HC9 := Lib.hid C
  clear C
  have h0 := (HC9.out.mk HM.out).c0
  have h1 := (HC9.out.mk HM.out).c1
  have h2 := (HC9.out.mk HM.out).c2
  have h3 := (HC9.out.mk HM.out).c3
  go_wp2_with fail
  refine (op3_chain (HC9.out.quiet ((Mod.refl _ _).alloc _)) (by simp [takeCode, giveCode, joinCode, awayCode, eachCode, turnGo, waitGo, turnCode] <;> omega) 6 _ rfl x9.heap.size 0 7 0 3 (by simp) (by simp) (by simp) (by simp)).mono ?_
  clear h0 h1 h2 h3
  rintro e x10 ⟨rfl, C⟩
  have HC10 := Lib.hid C
  clear C
  have h0 := (HC10.out.mk HM.out).c0
  have h1 := (HC10.out.mk HM.out).c1
  have h2 := (HC10.out.mk HM.out).c2
  have h3 := (HC10.out.mk HM.out).c3
  go_wp2_with fail
  refine (op3_chain (HC10.out.quiet ((Mod.refl _ _).alloc _)) (by simp [takeCode, giveCode, joinCode, awayCode, eachCode, turnGo, waitGo, turnCode] <;> omega) 7 _ rfl x10.heap.size 6 0 0 3 (by simp) (by simp) (by simp) (by simp)).mono ?_
  clear h0 h1 h2 h3
  rintro e x11 ⟨rfl, C⟩
  have HC11 := Lib.hid C
  clear C
  have h0 := (HC11.out.mk HM.out).c0
  have h1 := (HC11.out.mk HM.out).c1
  have h2 := (HC11.out.mk HM.out).c2
  have h3 := (HC11.out.mk HM.out).c3
  go_wp2_with fail
  refine (op0_chain HC11.out (by simp [takeCode, giveCode, joinCode, awayCode, eachCode, turnGo, waitGo, turnCode] <;> omega) 12 _ rfl).mono ?_
  clear h0 h1 h2 h3
  rintro e x12 ⟨rfl, C⟩
  have HC12 := Lib.hid C
  clear C
  have h0 := (HC12.out.mk HM.out).c0
  have h1 := (HC12.out.mk HM.out).c1
  have h2 := (HC12.out.mk HM.out).c2
  have h3 := (HC12.out.mk HM.out).c3
  go_wp2_with fail
  refine (label_chain HC12.out (by simp [takeCode, giveCode, joinCode, awayCode, eachCode, turnGo, waitGo, turnCode] <;> omega) (s.data.toList ++ [46, 98]) _ (bytes_cat s _)).mono ?_
  clear h0 h1 h2 h3
  rintro e x13 ⟨rfl, C⟩
  have HC13 := Lib.hid C
  clear C
  obtain ⟨v, ec, hv⟩ := HC13.out.made (w := w) (by simp [Value.ownBlock]) Hm.out hb
  have Hv := Lib.hid hv
  clear hv
  go_wp2
  go_ret2
  exact ⟨v, rfl, by rw [← genter1_eq]; simpa [List.append_assoc] using Hv.out⟩
set_option maxRecDepth 4000 in
set_option maxHeartbeats 8000000 in
theorem gleave1_ok (s : ByteArray) (w : World) (hn : nameB s.data.toList = true) (hs : s.size ≤ 4) :
    Calls Tryz.prog 76 #[.int .i64 1, .string s] w fun e w' => ∃ v, e = .returned (.tuple #[v, .nilIface]) ∧ Made (preC s.data.toList gc11) w v w' := by
  have Hn := Lib.hid hn
  clear hn
  go_enter Tryz.func76, Tryz.ntmps76
  go_wp2_with fail
  refine (begin1_ok s w Hn.out hs).mono ?_
  rintro e x0 ⟨b, rfl, hm, hb, E, M⟩
  have HC := Lib.hid (Chain.start E)
  have HM := Lib.hid M
  have Hm := Lib.hid hm
  clear hm E M
  have h0 := (HC.out.mk HM.out).c0
  have h1 := (HC.out.mk HM.out).c1
  have h2 := (HC.out.mk HM.out).c2
  have h3 := (HC.out.mk HM.out).c3
  go_wp2_with fail
  refine (op0_chain HC.out (by first | omega | simp) 12 _ rfl).mono ?_
  clear h0 h1 h2 h3
  rintro e x1 ⟨rfl, C⟩
  have HC1 := Lib.hid C
  clear C
  have h0 := (HC1.out.mk HM.out).c0
  have h1 := (HC1.out.mk HM.out).c1
  have h2 := (HC1.out.mk HM.out).c2
  have h3 := (HC1.out.mk HM.out).c3
  go_wp2_with fail
  refine (op3_chain (HC1.out.quiet ((Mod.refl _ _).alloc _)) (by simp [takeCode, giveCode, joinCode, awayCode, eachCode, turnGo, waitGo, turnCode] <;> omega) 6 _ rfl x1.heap.size 0 6 0 3 (by simp) (by simp) (by simp) (by simp)).mono ?_
  clear h0 h1 h2 h3
  rintro e x2 ⟨rfl, C⟩
  have HC2 := Lib.hid C
  clear C
  have h0 := (HC2.out.mk HM.out).c0
  have h1 := (HC2.out.mk HM.out).c1
  have h2 := (HC2.out.mk HM.out).c2
  have h3 := (HC2.out.mk HM.out).c3
  go_wp2_with fail
  refine (op2_chain (HC2.out.quiet ((Mod.refl _ _).alloc _)) (by simp [takeCode, giveCode, joinCode, awayCode, eachCode, turnGo, waitGo, turnCode] <;> omega) 0 _ rfl x2.heap.size 1 1 2 (by simp) (by simp) (by simp)).mono ?_
  clear h0 h1 h2 h3
  rintro e x3 ⟨rfl, C⟩
  have HC3 := Lib.hid C
  clear C
  have h0 := (HC3.out.mk HM.out).c0
  have h1 := (HC3.out.mk HM.out).c1
  have h2 := (HC3.out.mk HM.out).c2
  have h3 := (HC3.out.mk HM.out).c3
  go_wp2_with fail
  refine (op3_chain (HC3.out.quiet ((Mod.refl _ _).alloc _)) (by simp [takeCode, giveCode, joinCode, awayCode, eachCode, turnGo, waitGo, turnCode] <;> omega) 3 _ rfl x3.heap.size 0 0 1 3 (by simp) (by simp) (by simp) (by simp)).mono ?_
  clear h0 h1 h2 h3
  rintro e x4 ⟨rfl, C⟩
  have HC4 := Lib.hid C
  clear C
  have h0 := (HC4.out.mk HM.out).c0
  have h1 := (HC4.out.mk HM.out).c1
  have h2 := (HC4.out.mk HM.out).c2
  have h3 := (HC4.out.mk HM.out).c3
  go_wp2_with fail
  refine (op3_chain (HC4.out.quiet ((Mod.refl _ _).alloc _)) (by simp [takeCode, giveCode, joinCode, awayCode, eachCode, turnGo, waitGo, turnCode] <;> omega) 7 _ rfl x4.heap.size 6 0 0 3 (by simp) (by simp) (by simp) (by simp)).mono ?_
  clear h0 h1 h2 h3
  rintro e x5 ⟨rfl, C⟩
  have HC5 := Lib.hid C
  clear C
  obtain ⟨v, ec, hv⟩ := HC5.out.made (w := w) (by simp [Value.ownBlock]) Hm.out hb
  have Hv := Lib.hid hv
  clear hv
  go_wp2
  go_ret2
  exact ⟨v, rfl, by rw [← gleave1_eq]; simpa [List.append_assoc] using Hv.out⟩
set_option maxRecDepth 4000 in
set_option maxHeartbeats 8000000 in
theorem grest1_ok (s : ByteArray) (w : World) (hn : nameB s.data.toList = true) (hs : s.size ≤ 4) :
    Calls Tryz.prog 85 #[.int .i64 1, .string s] w fun e w' => ∃ v, e = .returned (.tuple #[v, .nilIface]) ∧ Made (preC s.data.toList gc12) w v w' := by
  have Hn := Lib.hid hn
  clear hn
  go_enter Tryz.func85, Tryz.ntmps85
  go_wp2_with fail
  refine (begin1_ok s w Hn.out hs).mono ?_
  rintro e x0 ⟨b, rfl, hm, hb, E, M⟩
  have h3 := M.c3
  have Hm := Lib.hid hm
  clear hm hb E M
  go_wp2
  go_ret2
  exact ⟨_, rfl, InsRow.nil _ _, Hm.out.toBelow, by simp [Value.ownBlock]⟩
set_option maxRecDepth 4000 in
set_option maxHeartbeats 8000000 in
theorem ggone1_ok (s : ByteArray) (w : World) (hn : nameB s.data.toList = true) (hs : s.size ≤ 4) :
    Calls Tryz.prog 48 #[.int .i64 1, .string s] w fun e w' => ∃ v, e = .returned (.tuple #[v, .nilIface]) ∧ Made (preC s.data.toList gc13) w v w' := by
  have Hn := Lib.hid hn
  clear hn
  go_enter Tryz.func48, Tryz.ntmps48
  go_wp2_with fail
  refine (begin1_ok s w Hn.out hs).mono ?_
  rintro e x0 ⟨b, rfl, hm, hb, E, M⟩
  have h3 := M.c3
  have Hm := Lib.hid hm
  clear hm hb E M
  go_wp2
  go_ret2
  exact ⟨_, rfl, InsRow.nil _ _, Hm.out.toBelow, by simp [Value.ownBlock]⟩
set_option maxRecDepth 4000 in
set_option maxHeartbeats 8000000 in
theorem gwait1_ok (s : ByteArray) (w : World) (hn : nameB s.data.toList = true) (hs : s.size ≤ 4) :
    Calls Tryz.prog 86 #[.int .i64 1, .string s] w fun e w' => ∃ v, e = .returned (.tuple #[v, .nilIface]) ∧ Made (preC s.data.toList gc14) w v w' := by
  have Hn := Lib.hid hn
  clear hn
  go_enter Tryz.func86, Tryz.ntmps86
  go_wp2_with fail
  refine (begin1_ok s _ Hn.out hs).mono ?_
  rintro e w1 ⟨b, rfl, hm, hb0, E, M⟩
  have hsw := hm.size
  have hlb := E.lt
  have hb1 : w.heap.size < b := by simp at hb0; omega
  have hp0 : w1.cell? ⟨w.heap.size, 0, none⟩ = some (.string s) := hm.cell (by simp) (fun e => e)
  have hq : Mod noF w1 (w1.alloc (.cells #[.pointer (some ⟨b, 0, none⟩)] 135)) := (Mod.refl _ _).alloc _
  have E1 := E.quiet hq
  have HC := Lib.hid (Chain.start E1)
  have HM := Lib.hid (M.quiet hq)
  have Hm := Lib.hid ((((Mod.refl noF w).alloc _).trans0 hm).trans0 hq)
  have Hv := Lib.hid E1.cell
  have hcp : w.heap.size < w1.heap.size := by simp at hsw; omega
  have hrow : ∀ (c : Nat) v, (w1.alloc (.cells #[.pointer (some ⟨b, 0, none⟩)] 135)).cell? ⟨b, 4, none⟩ = some v → v.ownBlock ≠ some c := fun c v h e => by
    rw [E1.cell] at h; cases h; cases e
  have HKm := Lib.hid (⟨by simp, by simp, by omega, hrow _⟩ : Cap (w1.alloc (.cells #[.pointer (some ⟨b, 0, none⟩)] 135)) b w1.heap.size (.pointer (some ⟨b, 0, none⟩)))
  have HKp := Lib.hid (⟨hq.cell hp0 (fun e => e), by simp; omega, by omega, hrow _⟩ : Cap (w1.alloc (.cells #[.pointer (some ⟨b, 0, none⟩)] 135)) b w.heap.size (.string s))
  have hb : w.heap.size ≤ b := by omega
  clear hm E M E1 hq hp0 hrow hsw hb0 hb1
  have h0 := (HC.out.mk HM.out).c0
  have h1 := (HC.out.mk HM.out).c1
  have h2 := (HC.out.mk HM.out).c2
  have h3 := (HC.out.mk HM.out).c3
  have hm := (HKm.out.next Hv.out HC.out).cell
  have hp := (HKp.out.next Hv.out HC.out).cell
  go_wp2
  clear h0 h1 h2 h3 hm hp
  go_wp2
  refine wp_region_held_drew (S := fun W => W.cell? ⟨w1.heap.size, 0, none⟩ = some (.pointer (some ⟨b, 0, none⟩)) ∧ W.cell? ⟨b, 0, none⟩ = some (.string (opStr 12))) (by kernel_rfl) ⟨(Mod.refl noF _).drew.cell (HKm.out.next Hv.out HC.out).cell (fun e => e), (Mod.refl noF _).drew.cell (HC.out.mk HM.out).c0 (fun e => e)⟩ (fun hHeld => ?_)
  refine wpAnyH_take (i := 0) (oi := ?o0x0) (v := ?v0x0) ?q0x0 (by kernel_rfl) ?f0x0 ?g0x0 ?p0x0 ?u0x0 (by assumption) ?r0x0
  case q0x0 => (rw [List.getElem?_toArray]; rfl)
  case f0x0 => kernel_rfl
  case g0x0 => kernel_rfl
  case p0x0 => exact (fun _ _ _ h => h)
  case u0x0 => (refine Or.inl ⟨by rfl, ?_⟩; intro w hSw; (try dsimp only at hSw); go_simp; (try rw [if_neg (by omega)]); try with_reducible rfl)
  try simp only [Act.put, List.setIfInBounds_toArray, List.set_cons_zero, List.set_cons_succ]
  refine wpAnyH_take (i := 1) (oi := ?o0x1) (v := ?v0x1) ?q0x1 (by kernel_rfl) ?f0x1 ?g0x1 ?p0x1 ?u0x1 (by assumption) ?r0x1
  case q0x1 => (rw [List.getElem?_toArray]; rfl)
  case f0x1 => kernel_rfl
  case g0x1 => kernel_rfl
  case p0x1 => exact (fun _ _ _ h => h)
  case u0x1 => (refine Or.inl ⟨by rfl, ?_⟩; intro w hSw; (try dsimp only at hSw); go_simp; (try rw [if_neg (by omega)]); try with_reducible rfl)
  try simp only [Act.put, List.setIfInBounds_toArray, List.set_cons_zero, List.set_cons_succ]
  refine wpAnyH_take (i := 2) (oi := ?o0x2) (v := ?v0x2) ?q0x2 (by kernel_rfl) ?f0x2 ?g0x2 ?p0x2 ?u0x2 (by assumption) ?r0x2
  case q0x2 => (rw [List.getElem?_toArray]; rfl)
  case f0x2 => kernel_rfl
  case g0x2 => kernel_rfl
  case p0x2 => exact (fun _ _ _ h => h)
  case u0x2 => (refine Or.inl ⟨by rfl, ?_⟩; intro w hSw; (try dsimp only at hSw); go_simp; (try rw [if_neg (by omega)]); try with_reducible rfl)
  try simp only [Act.put, List.setIfInBounds_toArray, List.set_cons_zero, List.set_cons_succ]
  refine wpAnyH_take (i := 3) (oi := ?o0x3) (v := ?v0x3) ?q0x3 (by kernel_rfl) ?f0x3 ?g0x3 ?p0x3 ?u0x3 (by assumption) ?r0x3
  case q0x3 => (rw [List.getElem?_toArray]; rfl)
  case f0x3 => kernel_rfl
  case g0x3 => kernel_rfl
  case p0x3 => exact (fun _ _ _ h => h)
  case u0x3 => (refine Or.inl ⟨by rfl, ?_⟩; intro w hSw; (try dsimp only at hSw); go_simp; (try rw [if_neg (by omega)]); try with_reducible rfl)
  try simp only [Act.put, List.setIfInBounds_toArray, List.set_cons_zero, List.set_cons_succ]
  refine wpAnyH_take (i := 4) (oi := ?o0x4) (v := ?v0x4) ?q0x4 (by kernel_rfl) ?f0x4 ?g0x4 ?p0x4 ?u0x4 (by assumption) ?r0x4
  case q0x4 => (rw [List.getElem?_toArray]; rfl)
  case f0x4 => kernel_rfl
  case g0x4 => kernel_rfl
  case p0x4 => exact (fun _ _ _ h => h)
  case u0x4 => (refine Or.inl ⟨by rfl, ?_⟩; intro w hSw; (try dsimp only at hSw); go_simp; (try rw [if_neg (by omega)]); try with_reducible rfl)
  try simp only [Act.put, List.setIfInBounds_toArray, List.set_cons_zero, List.set_cons_succ]
  refine wpAnyH_take (i := 5) (oi := ?o0x5) (v := ?v0x5) ?q0x5 (by kernel_rfl) ?f0x5 ?g0x5 ?p0x5 ?u0x5 (by assumption) ?r0x5
  case q0x5 => (rw [List.getElem?_toArray]; rfl)
  case f0x5 => kernel_rfl
  case g0x5 => kernel_rfl
  case p0x5 => exact (fun _ _ _ h => h)
  case u0x5 => (refine Or.inl ⟨by rfl, ?_⟩; intro w hSw; (try dsimp only at hSw); go_simp; (try rw [if_neg (by omega)]); try with_reducible rfl)
  try simp only [Act.put, List.setIfInBounds_toArray, List.set_cons_zero, List.set_cons_succ]
  refine wpAnyH_take (i := 6) (oi := ?o0x6) (v := ?v0x6) ?q0x6 (by kernel_rfl) ?f0x6 ?g0x6 ?p0x6 ?u0x6 (by assumption) ?r0x6
  case q0x6 => (rw [List.getElem?_toArray]; rfl)
  case f0x6 => kernel_rfl
  case g0x6 => kernel_rfl
  case p0x6 => exact (fun _ _ _ h => h)
  case u0x6 => (refine Or.inl ⟨by rfl, ?_⟩; intro w hSw; (try dsimp only at hSw); go_simp; (try rw [if_neg (by omega)]); try with_reducible rfl)
  try simp only [Act.put, List.setIfInBounds_toArray, List.set_cons_zero, List.set_cons_succ]
  refine wpAnyH_take (i := 7) (oi := ?o0x7) (v := ?v0x7) ?q0x7 (by kernel_rfl) ?f0x7 ?g0x7 ?p0x7 ?u0x7 (by assumption) ?r0x7
  case q0x7 => (rw [List.getElem?_toArray]; rfl)
  case f0x7 => kernel_rfl
  case g0x7 => kernel_rfl
  case p0x7 => exact (fun _ _ _ h => h)
  case u0x7 => (refine Or.inl ⟨by rfl, ?_⟩; intro w hSw; (try dsimp only at hSw); go_simp; (try rw [if_neg (by omega)]); try with_reducible rfl)
  try simp only [Act.put, List.setIfInBounds_toArray, List.set_cons_zero, List.set_cons_succ]
  refine em_spine (items := [⟨none, 8, 31⟩]) (E := [⟨12, [], [], 3, 30⟩]) (r0 := 25) (by kernel_rfl) (by kernel_rfl) (by kernel_rfl) (by rfl) ?lb1 (by rfl) (by rfl) ?len1 (fun w' l' C => ⟨(HKm.out.next Hv.out C).cell, (C.mk HM.out).c0⟩) (HC.out.quiet (Mod.refl _ _).drew) (by kernel_rfl) ?_
  case lb1 => (intro e he hk; simp only [List.mem_cons, List.not_mem_nil, or_false] at he; rcases he with rfl <;> (first | exact absurd rfl hk | exact congrArg Value.string (rfl)))
  case len1 => (first | (simp [takeCode, giveCode, joinCode, awayCode, eachCode, turnGo, waitGo, turnCode] <;> omega) | (simp <;> omega))
  intro U x1 C hU
  have u31 : U 31 = _ := hU 0 _ rfl
  simp only [spTmps, SpI.tmps, List.flatMap_cons, List.flatMap_nil, Option.map_some, Option.map_none, Option.toList_some, Option.toList_none, List.cons_append, List.nil_append, List.append_nil, patch, List.foldl_cons, List.foldl_nil, Act.put, List.setIfInBounds_toArray, List.set_cons_zero, List.set_cons_succ, u31]
  clear u31 hU hHeld
  simp only [List.map_cons, List.map_nil, EmC.ins, List.getD_cons_zero, List.getD_cons_succ, List.getD_nil] at C
  have HC1 := Lib.hid C
  clear C
  have h0 := (HC1.out.mk HM.out).c0
  have h1 := (HC1.out.mk HM.out).c1
  have h2 := (HC1.out.mk HM.out).c2
  have h3 := (HC1.out.mk HM.out).c3
  have hm := (HKm.out.next Hv.out HC1.out).cell
  have hp := (HKp.out.next Hv.out HC1.out).cell
  go_wp2_with fail
  clear h0 h1 h2 h3 hm hp
  have hg := gtake_chain HC1.out (HC1.out.mk HM.out) (by simp [takeCode, giveCode, joinCode, awayCode, eachCode, turnGo, waitGo, turnCode] <;> omega) Hn.out hs
  refine hg.mono ?_
  rintro e x2 ⟨rfl, C⟩
  have HC2 := Lib.hid C
  clear C hg
  have h0 := (HC2.out.mk HM.out).c0
  have h1 := (HC2.out.mk HM.out).c1
  have h2 := (HC2.out.mk HM.out).c2
  have h3 := (HC2.out.mk HM.out).c3
  have hm := (HKm.out.next Hv.out HC2.out).cell
  have hp := (HKp.out.next Hv.out HC2.out).cell
  go_wp2_with fail
  clear h0 h1 h2 h3 hm hp
  have hg := gturn_chain (s ++ ⟨#[46, 120]⟩) (size_plus2 s _ _ hs) 12 rfl HC2.out (HC2.out.mk HM.out) (by simp [takeCode, giveCode, joinCode, awayCode, eachCode, turnGo, waitGo, turnCode] <;> omega)
  refine hg.mono ?_
  rintro e x3 ⟨rfl, C⟩
  have HC3 := Lib.hid C
  clear C hg
  have h0 := (HC3.out.mk HM.out).c0
  have h1 := (HC3.out.mk HM.out).c1
  have h2 := (HC3.out.mk HM.out).c2
  have h3 := (HC3.out.mk HM.out).c3
  have hm := (HKm.out.next Hv.out HC3.out).cell
  have hp := (HKp.out.next Hv.out HC3.out).cell
  go_wp2_with fail
  clear h0 h1 h2 h3 hm hp
  have hg := gturn_chain (s ++ ⟨#[46, 121]⟩) (size_plus2 s _ _ hs) 12 rfl HC3.out (HC3.out.mk HM.out) (by simp [takeCode, giveCode, joinCode, awayCode, eachCode, turnGo, waitGo, turnCode] <;> omega)
  refine hg.mono ?_
  rintro e x4 ⟨rfl, C⟩
  have HC4 := Lib.hid C
  clear C hg
  go_wp2
  refine wp_region_held_drew (S := fun W => W.cell? ⟨w1.heap.size, 0, none⟩ = some (.pointer (some ⟨b, 0, none⟩)) ∧ W.cell? ⟨b, 0, none⟩ = some (.string (opStr 12))) (by kernel_rfl) ⟨(Mod.refl noF _).drew.cell (HKm.out.next Hv.out HC4.out).cell (fun e => e), (Mod.refl noF _).drew.cell (HC4.out.mk HM.out).c0 (fun e => e)⟩ (fun hHeld => ?_)
  refine wpAnyH_take (i := 0) (oi := ?o4x0) (v := ?v4x0) ?q4x0 (by kernel_rfl) ?f4x0 ?g4x0 ?p4x0 ?u4x0 (by assumption) ?r4x0
  case q4x0 => (rw [List.getElem?_toArray]; rfl)
  case f4x0 => kernel_rfl
  case g4x0 => kernel_rfl
  case p4x0 => exact (fun _ _ _ h => h)
  case u4x0 => (refine Or.inl ⟨by rfl, ?_⟩; intro w hSw; (try dsimp only at hSw); go_simp; (try rw [if_neg (by omega)]); try with_reducible rfl)
  try simp only [Act.put, List.setIfInBounds_toArray, List.set_cons_zero, List.set_cons_succ]
  refine wpAnyH_take (i := 1) (oi := ?o4x1) (v := ?v4x1) ?q4x1 (by kernel_rfl) ?f4x1 ?g4x1 ?p4x1 ?u4x1 (by assumption) ?r4x1
  case q4x1 => (rw [List.getElem?_toArray]; rfl)
  case f4x1 => kernel_rfl
  case g4x1 => kernel_rfl
  case p4x1 => exact (fun _ _ _ h => h)
  case u4x1 => (refine Or.inl ⟨by rfl, ?_⟩; intro w hSw; (try dsimp only at hSw); go_simp; (try rw [if_neg (by omega)]); try with_reducible rfl)
  try simp only [Act.put, List.setIfInBounds_toArray, List.set_cons_zero, List.set_cons_succ]
  refine wpAnyH_take (i := 2) (oi := ?o4x2) (v := ?v4x2) ?q4x2 (by kernel_rfl) ?f4x2 ?g4x2 ?p4x2 ?u4x2 (by assumption) ?r4x2
  case q4x2 => (rw [List.getElem?_toArray]; rfl)
  case f4x2 => kernel_rfl
  case g4x2 => kernel_rfl
  case p4x2 => exact (fun _ _ _ h => h)
  case u4x2 => (refine Or.inl ⟨by rfl, ?_⟩; intro w hSw; (try dsimp only at hSw); go_simp; (try rw [if_neg (by omega)]); try with_reducible rfl)
  try simp only [Act.put, List.setIfInBounds_toArray, List.set_cons_zero, List.set_cons_succ]
  refine wpAnyH_take (i := 3) (oi := ?o4x3) (v := ?v4x3) ?q4x3 (by kernel_rfl) ?f4x3 ?g4x3 ?p4x3 ?u4x3 (by assumption) ?r4x3
  case q4x3 => (rw [List.getElem?_toArray]; rfl)
  case f4x3 => kernel_rfl
  case g4x3 => kernel_rfl
  case p4x3 => exact (fun _ _ _ h => h)
  case u4x3 => (refine Or.inl ⟨by rfl, ?_⟩; intro w hSw; (try dsimp only at hSw); go_simp; (try rw [if_neg (by omega)]); try with_reducible rfl)
  try simp only [Act.put, List.setIfInBounds_toArray, List.set_cons_zero, List.set_cons_succ]
  refine wpAnyH_take (i := 4) (oi := ?o4x4) (v := ?v4x4) ?q4x4 (by kernel_rfl) ?f4x4 ?g4x4 ?p4x4 ?u4x4 (by assumption) ?r4x4
  case q4x4 => (rw [List.getElem?_toArray]; rfl)
  case f4x4 => kernel_rfl
  case g4x4 => kernel_rfl
  case p4x4 => exact (fun _ _ _ h => h)
  case u4x4 => (refine Or.inl ⟨by rfl, ?_⟩; intro w hSw; (try dsimp only at hSw); go_simp; (try rw [if_neg (by omega)]); try with_reducible rfl)
  try simp only [Act.put, List.setIfInBounds_toArray, List.set_cons_zero, List.set_cons_succ]
  refine wpAnyH_take (i := 5) (oi := ?o4x5) (v := ?v4x5) ?q4x5 (by kernel_rfl) ?f4x5 ?g4x5 ?p4x5 ?u4x5 (by assumption) ?r4x5
  case q4x5 => (rw [List.getElem?_toArray]; rfl)
  case f4x5 => kernel_rfl
  case g4x5 => kernel_rfl
  case p4x5 => exact (fun _ _ _ h => h)
  case u4x5 => (refine Or.inl ⟨by rfl, ?_⟩; intro w hSw; (try dsimp only at hSw); go_simp; (try rw [if_neg (by omega)]); try with_reducible rfl)
  try simp only [Act.put, List.setIfInBounds_toArray, List.set_cons_zero, List.set_cons_succ]
  refine wpAnyH_take (i := 6) (oi := ?o4x6) (v := ?v4x6) ?q4x6 (by kernel_rfl) ?f4x6 ?g4x6 ?p4x6 ?u4x6 (by assumption) ?r4x6
  case q4x6 => (rw [List.getElem?_toArray]; rfl)
  case f4x6 => kernel_rfl
  case g4x6 => kernel_rfl
  case p4x6 => exact (fun _ _ _ h => h)
  case u4x6 => (refine Or.inl ⟨by rfl, ?_⟩; intro w hSw; (try dsimp only at hSw); go_simp; (try rw [if_neg (by omega)]); try with_reducible rfl)
  try simp only [Act.put, List.setIfInBounds_toArray, List.set_cons_zero, List.set_cons_succ]
  refine wpAnyH_take (i := 7) (oi := ?o4x7) (v := ?v4x7) ?q4x7 (by kernel_rfl) ?f4x7 ?g4x7 ?p4x7 ?u4x7 (by assumption) ?r4x7
  case q4x7 => (rw [List.getElem?_toArray]; rfl)
  case f4x7 => kernel_rfl
  case g4x7 => kernel_rfl
  case p4x7 => exact (fun _ _ _ h => h)
  case u4x7 => (refine Or.inl ⟨by rfl, ?_⟩; intro w hSw; (try dsimp only at hSw); go_simp; (try rw [if_neg (by omega)]); try with_reducible rfl)
  try simp only [Act.put, List.setIfInBounds_toArray, List.set_cons_zero, List.set_cons_succ]
  refine em_spine (items := [⟨none, 8, 50⟩]) (E := [⟨12, [], [], 3, 49⟩]) (r0 := 44) (by kernel_rfl) (by kernel_rfl) (by kernel_rfl) (by rfl) ?lb5 (by rfl) (by rfl) ?len5 (fun w' l' C => ⟨(HKm.out.next Hv.out C).cell, (C.mk HM.out).c0⟩) (HC4.out.quiet (Mod.refl _ _).drew) (by kernel_rfl) ?_
  case lb5 => (intro e he hk; simp only [List.mem_cons, List.not_mem_nil, or_false] at he; rcases he with rfl <;> (first | exact absurd rfl hk | exact congrArg Value.string (rfl)))
  case len5 => (first | (simp [takeCode, giveCode, joinCode, awayCode, eachCode, turnGo, waitGo, turnCode] <;> omega) | (simp <;> omega))
  intro U x5 C hU
  have u50 : U 50 = _ := hU 0 _ rfl
  simp only [spTmps, SpI.tmps, List.flatMap_cons, List.flatMap_nil, Option.map_some, Option.map_none, Option.toList_some, Option.toList_none, List.cons_append, List.nil_append, List.append_nil, patch, List.foldl_cons, List.foldl_nil, Act.put, List.setIfInBounds_toArray, List.set_cons_zero, List.set_cons_succ, u50]
  clear u50 hU hHeld
  simp only [List.map_cons, List.map_nil, EmC.ins, List.getD_cons_zero, List.getD_cons_succ, List.getD_nil] at C
  have HC5 := Lib.hid C
  clear C
  have h0 := (HC5.out.mk HM.out).c0
  have h1 := (HC5.out.mk HM.out).c1
  have h2 := (HC5.out.mk HM.out).c2
  have h3 := (HC5.out.mk HM.out).c3
  have hm := (HKm.out.next Hv.out HC5.out).cell
  have hp := (HKp.out.next Hv.out HC5.out).cell
  go_wp2_with fail
  clear h0 h1 h2 h3 hm hp
  have hg := ggive_chain HC5.out (HC5.out.mk HM.out) (by simp [takeCode, giveCode, joinCode, awayCode, eachCode, turnGo, waitGo, turnCode] <;> omega) Hn.out hs
  refine hg.mono ?_
  rintro e x6 ⟨rfl, C⟩
  have HC6 := Lib.hid C
  clear C hg
  have h0 := (HC6.out.mk HM.out).c0
  have h1 := (HC6.out.mk HM.out).c1
  have h2 := (HC6.out.mk HM.out).c2
  have h3 := (HC6.out.mk HM.out).c3
  have hm := (HKm.out.next Hv.out HC6.out).cell
  have hp := (HKp.out.next Hv.out HC6.out).cell
  obtain ⟨v, ec, hv⟩ := HC6.out.made (w := w) (by simp [Value.ownBlock]) Hm.out hb
  have Hv := Lib.hid hv
  clear hv
  go_wp2
  go_ret2
  exact ⟨v, rfl, by rw [← gwait1_eq]; simpa [List.append_assoc] using Hv.out⟩
end Go.Proofs.YtppihkneeolomaaGreatDoor
end
/- package grace, flavour 2: its code, made. -/
section
namespace Go.Proofs.YtppihkneeolomaaGreatDoor
open Go.RowKit Qs Qh
variable {w0 w w1 : World} {b o : Nat} {v0 : Value} {l : List Instr} {br s : ByteArray} {fe jo co : Bool} {u : Value} {c : Nat}
set_option maxRecDepth 4000 in
set_option maxHeartbeats 8000000 in
theorem genter2_ok (s : ByteArray) (w : World) (hn : nameB s.data.toList = true) (hs : s.size ≤ 4) :
    Calls Tryz.prog 75 #[.int .i64 2, .string s] w fun e w' => ∃ v, e = .returned (.tuple #[v, .nilIface]) ∧ Made (preC s.data.toList gc20) w v w' := by
  have Hn := Lib.hid hn
  clear hn
  go_enter Tryz.func75, Tryz.ntmps75
  go_wp2_with fail
  refine (begin2_ok s w Hn.out hs).mono ?_
  rintro e x0 ⟨b, rfl, hm, hb, E, M⟩
  have HC := Lib.hid (Chain.start E)
  have HM := Lib.hid M
  have Hm := Lib.hid hm
  clear hm E M
  have h0 := (HC.out.mk HM.out).c0
  have h1 := (HC.out.mk HM.out).c1
  have h2 := (HC.out.mk HM.out).c2
  have h3 := (HC.out.mk HM.out).c3
  go_wp2_with fail
  refine (op3_chain (HC.out.quiet ((Mod.refl _ _).alloc _)) (by first | omega | simp) 6 _ rfl x0.heap.size 0 6 0 3 (by simp) (by simp) (by simp) (by simp)).mono ?_
  clear h0 h1 h2 h3
  rintro e x1 ⟨rfl, C⟩
  have HC1 := Lib.hid C
  clear C
  have h0 := (HC1.out.mk HM.out).c0
  have h1 := (HC1.out.mk HM.out).c1
  have h2 := (HC1.out.mk HM.out).c2
  have h3 := (HC1.out.mk HM.out).c3
  go_wp2_with fail
  refine (op2_chain (HC1.out.quiet ((Mod.refl _ _).alloc _)) (by simp [takeCode, giveCode, joinCode, awayCode, eachCode, turnGo, waitGo, turnCode] <;> omega) 0 _ rfl x1.heap.size 1 255 2 (by simp) (by simp) (by simp)).mono ?_
  clear h0 h1 h2 h3
  rintro e x2 ⟨rfl, C⟩
  have HC2 := Lib.hid C
  clear C
  have h0 := (HC2.out.mk HM.out).c0
  have h1 := (HC2.out.mk HM.out).c1
  have h2 := (HC2.out.mk HM.out).c2
  have h3 := (HC2.out.mk HM.out).c3
  go_wp2_with fail
  refine (op3_chain (HC2.out.quiet ((Mod.refl _ _).alloc _)) (by simp [takeCode, giveCode, joinCode, awayCode, eachCode, turnGo, waitGo, turnCode] <;> omega) 4 _ rfl x2.heap.size 1 0 1 3 (by simp) (by simp) (by simp) (by simp)).mono ?_
  clear h0 h1 h2 h3
  rintro e x3 ⟨rfl, C⟩
  have HC3 := Lib.hid C
  clear C
  have h0 := (HC3.out.mk HM.out).c0
  have h1 := (HC3.out.mk HM.out).c1
  have h2 := (HC3.out.mk HM.out).c2
  have h3 := (HC3.out.mk HM.out).c3
  go_wp2_with fail
  refine (to1_chain (HC3.out.quiet ((Mod.refl _ _).alloc _)) (by simp [takeCode, giveCode, joinCode, awayCode, eachCode, turnGo, waitGo, turnCode] <;> omega) 14 _ rfl (s.data.toList ++ [46, 97]) _ (bytes_cat s _) x3.heap.size 1 1 (by simp) (by simp)).mono ?_
  clear h0 h1 h2 h3
  rintro e x4 ⟨rfl, C⟩
  have HC4 := Lib.hid C
  clear C
  have h0 := (HC4.out.mk HM.out).c0
  have h1 := (HC4.out.mk HM.out).c1
  have h2 := (HC4.out.mk HM.out).c2
  have h3 := (HC4.out.mk HM.out).c3
  go_wp2_with fail
  refine (op2_chain (HC4.out.quiet ((Mod.refl _ _).alloc _)) (by simp [takeCode, giveCode, joinCode, awayCode, eachCode, turnGo, waitGo, turnCode] <;> omega) 0 _ rfl x4.heap.size 1 1 2 (by simp) (by simp) (by simp)).mono ?_
  clear h0 h1 h2 h3
  rintro e x5 ⟨rfl, C⟩
  have HC5 := Lib.hid C
  clear C
  have h0 := (HC5.out.mk HM.out).c0
  have h1 := (HC5.out.mk HM.out).c1
  have h2 := (HC5.out.mk HM.out).c2
  have h3 := (HC5.out.mk HM.out).c3
  go_wp2_with fail
  refine (op3_chain (HC5.out.quiet ((Mod.refl _ _).alloc _)) (by simp [takeCode, giveCode, joinCode, awayCode, eachCode, turnGo, waitGo, turnCode] <;> omega) 2 _ rfl x5.heap.size 0 0 1 3 (by simp) (by simp) (by simp) (by simp)).mono ?_
  clear h0 h1 h2 h3
  rintro e x6 ⟨rfl, C⟩
  have HC6 := Lib.hid C
  clear C
  have h0 := (HC6.out.mk HM.out).c0
  have h1 := (HC6.out.mk HM.out).c1
  have h2 := (HC6.out.mk HM.out).c2
  have h3 := (HC6.out.mk HM.out).c3
  go_wp2_with fail
  refine (op3_chain (HC6.out.quiet ((Mod.refl _ _).alloc _)) (by simp [takeCode, giveCode, joinCode, awayCode, eachCode, turnGo, waitGo, turnCode] <;> omega) 7 _ rfl x6.heap.size 6 0 0 3 (by simp) (by simp) (by simp) (by simp)).mono ?_
  clear h0 h1 h2 h3
  rintro e x7 ⟨rfl, C⟩
  have HC7 := Lib.hid C
  clear C
  have h0 := (HC7.out.mk HM.out).c0
  have h1 := (HC7.out.mk HM.out).c1
  have h2 := (HC7.out.mk HM.out).c2
  have h3 := (HC7.out.mk HM.out).c3
  go_wp2_with fail
  refine (to0_chain HC7.out (by simp [takeCode, giveCode, joinCode, awayCode, eachCode, turnGo, waitGo, turnCode] <;> omega) 16 _ rfl (s.data.toList ++ [46, 98]) _ (bytes_cat s _)).mono ?_
  clear h0 h1 h2 h3
  rintro e x8 ⟨rfl, C⟩
  have HC8 := Lib.hid C
  clear C
  have h0 := (HC8.out.mk HM.out).c0
  have h1 := (HC8.out.mk HM.out).c1
  have h2 := (HC8.out.mk HM.out).c2
  have h3 := (HC8.out.mk HM.out).c3
  go_wp2_with fail
  refine (label_chain HC8.out (by simp [takeCode, giveCode, joinCode, awayCode, eachCode, turnGo, waitGo, turnCode] <;> omega) (s.data.toList ++ [46, 97]) _ (bytes_cat s _)).mono ?_
  clear h0 h1 h2 h3
  rintro e x9 ⟨rfl, C⟩
  have HC9 := Lib.hid C
  clear C
  have h0 := (HC9.out.mk HM.out).c0
  have h1 := (HC9.out.mk HM.out).c1
  have h2 := (HC9.out.mk HM.out).c2
  have h3 := (HC9.out.mk HM.out).c3
  go_wp2_with fail
  refine (op3_chain (HC9.out.quiet ((Mod.refl _ _).alloc _)) (by simp [takeCode, giveCode, joinCode, awayCode, eachCode, turnGo, waitGo, turnCode] <;> omega) 6 _ rfl x9.heap.size 0 7 0 3 (by simp) (by simp) (by simp) (by simp)).mono ?_
  clear h0 h1 h2 h3
  rintro e x10 ⟨rfl, C⟩
  have HC10 := Lib.hid C
  clear C
  have h0 := (HC10.out.mk HM.out).c0
  have h1 := (HC10.out.mk HM.out).c1
  have h2 := (HC10.out.mk HM.out).c2
  have h3 := (HC10.out.mk HM.out).c3
  go_wp2_with fail
  refine (op3_chain (HC10.out.quiet ((Mod.refl _ _).alloc _)) (by simp [takeCode, giveCode, joinCode, awayCode, eachCode, turnGo, waitGo, turnCode] <;> omega) 7 _ rfl x10.heap.size 6 0 0 3 (by simp) (by simp) (by simp) (by simp)).mono ?_
  clear h0 h1 h2 h3
  rintro e x11 ⟨rfl, C⟩
  have HC11 := Lib.hid C
  clear C
  have h0 := (HC11.out.mk HM.out).c0
  have h1 := (HC11.out.mk HM.out).c1
  have h2 := (HC11.out.mk HM.out).c2
  have h3 := (HC11.out.mk HM.out).c3
  go_wp2_with fail
  refine (label_chain HC11.out (by simp [takeCode, giveCode, joinCode, awayCode, eachCode, turnGo, waitGo, turnCode] <;> omega) (s.data.toList ++ [46, 98]) _ (bytes_cat s _)).mono ?_
  clear h0 h1 h2 h3
  rintro e x12 ⟨rfl, C⟩
  have HC12 := Lib.hid C
  clear C
  obtain ⟨v, ec, hv⟩ := HC12.out.made (w := w) (by simp [Value.ownBlock]) Hm.out hb
  have Hv := Lib.hid hv
  clear hv
  go_wp2
  go_ret2
  exact ⟨v, rfl, by rw [← genter2_eq]; simpa [List.append_assoc] using Hv.out⟩
set_option maxRecDepth 4000 in
set_option maxHeartbeats 8000000 in
theorem gleave2_ok (s : ByteArray) (w : World) (hn : nameB s.data.toList = true) (hs : s.size ≤ 4) :
    Calls Tryz.prog 76 #[.int .i64 2, .string s] w fun e w' => ∃ v, e = .returned (.tuple #[v, .nilIface]) ∧ Made (preC s.data.toList gc21) w v w' := by
  have Hn := Lib.hid hn
  clear hn
  go_enter Tryz.func76, Tryz.ntmps76
  go_wp2_with fail
  refine (begin2_ok s w Hn.out hs).mono ?_
  rintro e x0 ⟨b, rfl, hm, hb, E, M⟩
  have HC := Lib.hid (Chain.start E)
  have HM := Lib.hid M
  have Hm := Lib.hid hm
  clear hm E M
  have h0 := (HC.out.mk HM.out).c0
  have h1 := (HC.out.mk HM.out).c1
  have h2 := (HC.out.mk HM.out).c2
  have h3 := (HC.out.mk HM.out).c3
  go_wp2_with fail
  refine (op3_chain (HC.out.quiet ((Mod.refl _ _).alloc _)) (by first | omega | simp) 6 _ rfl x0.heap.size 0 6 0 3 (by simp) (by simp) (by simp) (by simp)).mono ?_
  clear h0 h1 h2 h3
  rintro e x1 ⟨rfl, C⟩
  have HC1 := Lib.hid C
  clear C
  have h0 := (HC1.out.mk HM.out).c0
  have h1 := (HC1.out.mk HM.out).c1
  have h2 := (HC1.out.mk HM.out).c2
  have h3 := (HC1.out.mk HM.out).c3
  go_wp2_with fail
  refine (op2_chain (HC1.out.quiet ((Mod.refl _ _).alloc _)) (by simp [takeCode, giveCode, joinCode, awayCode, eachCode, turnGo, waitGo, turnCode] <;> omega) 0 _ rfl x1.heap.size 1 1 2 (by simp) (by simp) (by simp)).mono ?_
  clear h0 h1 h2 h3
  rintro e x2 ⟨rfl, C⟩
  have HC2 := Lib.hid C
  clear C
  have h0 := (HC2.out.mk HM.out).c0
  have h1 := (HC2.out.mk HM.out).c1
  have h2 := (HC2.out.mk HM.out).c2
  have h3 := (HC2.out.mk HM.out).c3
  go_wp2_with fail
  refine (op3_chain (HC2.out.quiet ((Mod.refl _ _).alloc _)) (by simp [takeCode, giveCode, joinCode, awayCode, eachCode, turnGo, waitGo, turnCode] <;> omega) 3 _ rfl x2.heap.size 0 0 1 3 (by simp) (by simp) (by simp) (by simp)).mono ?_
  clear h0 h1 h2 h3
  rintro e x3 ⟨rfl, C⟩
  have HC3 := Lib.hid C
  clear C
  have h0 := (HC3.out.mk HM.out).c0
  have h1 := (HC3.out.mk HM.out).c1
  have h2 := (HC3.out.mk HM.out).c2
  have h3 := (HC3.out.mk HM.out).c3
  go_wp2_with fail
  refine (op3_chain (HC3.out.quiet ((Mod.refl _ _).alloc _)) (by simp [takeCode, giveCode, joinCode, awayCode, eachCode, turnGo, waitGo, turnCode] <;> omega) 7 _ rfl x3.heap.size 6 0 0 3 (by simp) (by simp) (by simp) (by simp)).mono ?_
  clear h0 h1 h2 h3
  rintro e x4 ⟨rfl, C⟩
  have HC4 := Lib.hid C
  clear C
  obtain ⟨v, ec, hv⟩ := HC4.out.made (w := w) (by simp [Value.ownBlock]) Hm.out hb
  have Hv := Lib.hid hv
  clear hv
  go_wp2
  go_ret2
  exact ⟨v, rfl, by rw [← gleave2_eq]; simpa [List.append_assoc] using Hv.out⟩
set_option maxRecDepth 4000 in
set_option maxHeartbeats 8000000 in
theorem grest2_ok (s : ByteArray) (w : World) (hn : nameB s.data.toList = true) (hs : s.size ≤ 4) :
    Calls Tryz.prog 85 #[.int .i64 2, .string s] w fun e w' => ∃ v, e = .returned (.tuple #[v, .nilIface]) ∧ Made (preC s.data.toList gc22) w v w' := by
  have Hn := Lib.hid hn
  clear hn
  go_enter Tryz.func85, Tryz.ntmps85
  go_wp2_with fail
  refine (begin2_ok s w Hn.out hs).mono ?_
  rintro e x0 ⟨b, rfl, hm, hb, E, M⟩
  have h3 := M.c3
  have Hm := Lib.hid hm
  clear hm hb E M
  go_wp2
  go_ret2
  exact ⟨_, rfl, InsRow.nil _ _, Hm.out.toBelow, by simp [Value.ownBlock]⟩
set_option maxRecDepth 4000 in
set_option maxHeartbeats 8000000 in
theorem ggone2_ok (s : ByteArray) (w : World) (hn : nameB s.data.toList = true) (hs : s.size ≤ 4) :
    Calls Tryz.prog 48 #[.int .i64 2, .string s] w fun e w' => ∃ v, e = .returned (.tuple #[v, .nilIface]) ∧ Made (preC s.data.toList gc23) w v w' := by
  have Hn := Lib.hid hn
  clear hn
  go_enter Tryz.func48, Tryz.ntmps48
  go_wp2_with fail
  refine (begin2_ok s w Hn.out hs).mono ?_
  rintro e x0 ⟨b, rfl, hm, hb, E, M⟩
  have h3 := M.c3
  have Hm := Lib.hid hm
  clear hm hb E M
  go_wp2
  go_ret2
  exact ⟨_, rfl, InsRow.nil _ _, Hm.out.toBelow, by simp [Value.ownBlock]⟩
set_option maxRecDepth 4000 in
set_option maxHeartbeats 8000000 in
theorem gwait2_ok (s : ByteArray) (w : World) (hn : nameB s.data.toList = true) (hs : s.size ≤ 4) :
    Calls Tryz.prog 86 #[.int .i64 2, .string s] w fun e w' => ∃ v, e = .returned (.tuple #[v, .nilIface]) ∧ Made (preC s.data.toList gc24) w v w' := by
  have Hn := Lib.hid hn
  clear hn
  go_enter Tryz.func86, Tryz.ntmps86
  go_wp2_with fail
  refine (begin2_ok s _ Hn.out hs).mono ?_
  rintro e w1 ⟨b, rfl, hm, hb0, E, M⟩
  have hsw := hm.size
  have hlb := E.lt
  have hb1 : w.heap.size < b := by simp at hb0; omega
  have hp0 : w1.cell? ⟨w.heap.size, 0, none⟩ = some (.string s) := hm.cell (by simp) (fun e => e)
  have hq : Mod noF w1 (w1.alloc (.cells #[.pointer (some ⟨b, 0, none⟩)] 135)) := (Mod.refl _ _).alloc _
  have E1 := E.quiet hq
  have HC := Lib.hid (Chain.start E1)
  have HM := Lib.hid (M.quiet hq)
  have Hm := Lib.hid ((((Mod.refl noF w).alloc _).trans0 hm).trans0 hq)
  have Hv := Lib.hid E1.cell
  have hcp : w.heap.size < w1.heap.size := by simp at hsw; omega
  have hrow : ∀ (c : Nat) v, (w1.alloc (.cells #[.pointer (some ⟨b, 0, none⟩)] 135)).cell? ⟨b, 4, none⟩ = some v → v.ownBlock ≠ some c := fun c v h e => by
    rw [E1.cell] at h; cases h; cases e
  have HKm := Lib.hid (⟨by simp, by simp, by omega, hrow _⟩ : Cap (w1.alloc (.cells #[.pointer (some ⟨b, 0, none⟩)] 135)) b w1.heap.size (.pointer (some ⟨b, 0, none⟩)))
  have HKp := Lib.hid (⟨hq.cell hp0 (fun e => e), by simp; omega, by omega, hrow _⟩ : Cap (w1.alloc (.cells #[.pointer (some ⟨b, 0, none⟩)] 135)) b w.heap.size (.string s))
  have hb : w.heap.size ≤ b := by omega
  clear hm E M E1 hq hp0 hrow hsw hb0 hb1
  have h0 := (HC.out.mk HM.out).c0
  have h1 := (HC.out.mk HM.out).c1
  have h2 := (HC.out.mk HM.out).c2
  have h3 := (HC.out.mk HM.out).c3
  have hm := (HKm.out.next Hv.out HC.out).cell
  have hp := (HKp.out.next Hv.out HC.out).cell
  go_wp2
  clear h0 h1 h2 h3 hm hp
  go_wp2
  refine wp_region_held_drew (S := fun W => W.cell? ⟨w1.heap.size, 0, none⟩ = some (.pointer (some ⟨b, 0, none⟩)) ∧ W.cell? ⟨b, 0, none⟩ = some (.string (opStr 13))) (by kernel_rfl) ⟨(Mod.refl noF _).drew.cell (HKm.out.next Hv.out HC.out).cell (fun e => e), (Mod.refl noF _).drew.cell (HC.out.mk HM.out).c0 (fun e => e)⟩ (fun hHeld => ?_)
  refine wpAnyH_take (i := 0) (oi := ?o0x0) (v := ?v0x0) ?q0x0 (by kernel_rfl) ?f0x0 ?g0x0 ?p0x0 ?u0x0 (by assumption) ?r0x0
  case q0x0 => (rw [List.getElem?_toArray]; rfl)
  case f0x0 => kernel_rfl
  case g0x0 => kernel_rfl
  case p0x0 => exact (fun _ _ _ h => h)
  case u0x0 => (refine Or.inl ⟨by rfl, ?_⟩; intro w hSw; (try dsimp only at hSw); go_simp; (try rw [if_neg (by omega)]); try with_reducible rfl)
  try simp only [Act.put, List.setIfInBounds_toArray, List.set_cons_zero, List.set_cons_succ]
  refine wpAnyH_take (i := 1) (oi := ?o0x1) (v := ?v0x1) ?q0x1 (by kernel_rfl) ?f0x1 ?g0x1 ?p0x1 ?u0x1 (by assumption) ?r0x1
  case q0x1 => (rw [List.getElem?_toArray]; rfl)
  case f0x1 => kernel_rfl
  case g0x1 => kernel_rfl
  case p0x1 => exact (fun _ _ _ h => h)
  case u0x1 => (refine Or.inl ⟨by rfl, ?_⟩; intro w hSw; (try dsimp only at hSw); go_simp; (try rw [if_neg (by omega)]); try with_reducible rfl)
  try simp only [Act.put, List.setIfInBounds_toArray, List.set_cons_zero, List.set_cons_succ]
  refine wpAnyH_take (i := 2) (oi := ?o0x2) (v := ?v0x2) ?q0x2 (by kernel_rfl) ?f0x2 ?g0x2 ?p0x2 ?u0x2 (by assumption) ?r0x2
  case q0x2 => (rw [List.getElem?_toArray]; rfl)
  case f0x2 => kernel_rfl
  case g0x2 => kernel_rfl
  case p0x2 => exact (fun _ _ _ h => h)
  case u0x2 => (refine Or.inl ⟨by rfl, ?_⟩; intro w hSw; (try dsimp only at hSw); go_simp; (try rw [if_neg (by omega)]); try with_reducible rfl)
  try simp only [Act.put, List.setIfInBounds_toArray, List.set_cons_zero, List.set_cons_succ]
  refine wpAnyH_take (i := 3) (oi := ?o0x3) (v := ?v0x3) ?q0x3 (by kernel_rfl) ?f0x3 ?g0x3 ?p0x3 ?u0x3 (by assumption) ?r0x3
  case q0x3 => (rw [List.getElem?_toArray]; rfl)
  case f0x3 => kernel_rfl
  case g0x3 => kernel_rfl
  case p0x3 => exact (fun _ _ _ h => h)
  case u0x3 => (refine Or.inl ⟨by rfl, ?_⟩; intro w hSw; (try dsimp only at hSw); go_simp; (try rw [if_neg (by omega)]); try with_reducible rfl)
  try simp only [Act.put, List.setIfInBounds_toArray, List.set_cons_zero, List.set_cons_succ]
  refine wpAnyH_take (i := 4) (oi := ?o0x4) (v := ?v0x4) ?q0x4 (by kernel_rfl) ?f0x4 ?g0x4 ?p0x4 ?u0x4 (by assumption) ?r0x4
  case q0x4 => (rw [List.getElem?_toArray]; rfl)
  case f0x4 => kernel_rfl
  case g0x4 => kernel_rfl
  case p0x4 => exact (fun _ _ _ h => h)
  case u0x4 => (refine Or.inl ⟨by rfl, ?_⟩; intro w hSw; (try dsimp only at hSw); go_simp; (try rw [if_neg (by omega)]); try with_reducible rfl)
  try simp only [Act.put, List.setIfInBounds_toArray, List.set_cons_zero, List.set_cons_succ]
  refine wpAnyH_take (i := 5) (oi := ?o0x5) (v := ?v0x5) ?q0x5 (by kernel_rfl) ?f0x5 ?g0x5 ?p0x5 ?u0x5 (by assumption) ?r0x5
  case q0x5 => (rw [List.getElem?_toArray]; rfl)
  case f0x5 => kernel_rfl
  case g0x5 => kernel_rfl
  case p0x5 => exact (fun _ _ _ h => h)
  case u0x5 => (refine Or.inl ⟨by rfl, ?_⟩; intro w hSw; (try dsimp only at hSw); go_simp; (try rw [if_neg (by omega)]); try with_reducible rfl)
  try simp only [Act.put, List.setIfInBounds_toArray, List.set_cons_zero, List.set_cons_succ]
  refine wpAnyH_take (i := 6) (oi := ?o0x6) (v := ?v0x6) ?q0x6 (by kernel_rfl) ?f0x6 ?g0x6 ?p0x6 ?u0x6 (by assumption) ?r0x6
  case q0x6 => (rw [List.getElem?_toArray]; rfl)
  case f0x6 => kernel_rfl
  case g0x6 => kernel_rfl
  case p0x6 => exact (fun _ _ _ h => h)
  case u0x6 => (refine Or.inl ⟨by rfl, ?_⟩; intro w hSw; (try dsimp only at hSw); go_simp; (try rw [if_neg (by omega)]); try with_reducible rfl)
  try simp only [Act.put, List.setIfInBounds_toArray, List.set_cons_zero, List.set_cons_succ]
  refine wpAnyH_take (i := 7) (oi := ?o0x7) (v := ?v0x7) ?q0x7 (by kernel_rfl) ?f0x7 ?g0x7 ?p0x7 ?u0x7 (by assumption) ?r0x7
  case q0x7 => (rw [List.getElem?_toArray]; rfl)
  case f0x7 => kernel_rfl
  case g0x7 => kernel_rfl
  case p0x7 => exact (fun _ _ _ h => h)
  case u0x7 => (refine Or.inl ⟨by rfl, ?_⟩; intro w hSw; (try dsimp only at hSw); go_simp; (try rw [if_neg (by omega)]); try with_reducible rfl)
  try simp only [Act.put, List.setIfInBounds_toArray, List.set_cons_zero, List.set_cons_succ]
  refine em_spine (items := [⟨none, 8, 31⟩]) (E := [⟨13, [], [], 3, 30⟩]) (r0 := 25) (by kernel_rfl) (by kernel_rfl) (by kernel_rfl) (by rfl) ?lb1 (by rfl) (by rfl) ?len1 (fun w' l' C => ⟨(HKm.out.next Hv.out C).cell, (C.mk HM.out).c0⟩) (HC.out.quiet (Mod.refl _ _).drew) (by kernel_rfl) ?_
  case lb1 => (intro e he hk; simp only [List.mem_cons, List.not_mem_nil, or_false] at he; rcases he with rfl <;> (first | exact absurd rfl hk | exact congrArg Value.string (rfl)))
  case len1 => (first | (simp [takeCode, giveCode, joinCode, awayCode, eachCode, turnGo, waitGo, turnCode] <;> omega) | (simp <;> omega))
  intro U x1 C hU
  have u31 : U 31 = _ := hU 0 _ rfl
  simp only [spTmps, SpI.tmps, List.flatMap_cons, List.flatMap_nil, Option.map_some, Option.map_none, Option.toList_some, Option.toList_none, List.cons_append, List.nil_append, List.append_nil, patch, List.foldl_cons, List.foldl_nil, Act.put, List.setIfInBounds_toArray, List.set_cons_zero, List.set_cons_succ, u31]
  clear u31 hU hHeld
  simp only [List.map_cons, List.map_nil, EmC.ins, List.getD_cons_zero, List.getD_cons_succ, List.getD_nil] at C
  have HC1 := Lib.hid C
  clear C
  have h0 := (HC1.out.mk HM.out).c0
  have h1 := (HC1.out.mk HM.out).c1
  have h2 := (HC1.out.mk HM.out).c2
  have h3 := (HC1.out.mk HM.out).c3
  have hm := (HKm.out.next Hv.out HC1.out).cell
  have hp := (HKp.out.next Hv.out HC1.out).cell
  go_wp2_with fail
  clear h0 h1 h2 h3 hm hp
  have hg := gtake_chain HC1.out (HC1.out.mk HM.out) (by simp [takeCode, giveCode, joinCode, awayCode, eachCode, turnGo, waitGo, turnCode] <;> omega) Hn.out hs
  refine hg.mono ?_
  rintro e x2 ⟨rfl, C⟩
  have HC2 := Lib.hid C
  clear C hg
  have h0 := (HC2.out.mk HM.out).c0
  have h1 := (HC2.out.mk HM.out).c1
  have h2 := (HC2.out.mk HM.out).c2
  have h3 := (HC2.out.mk HM.out).c3
  have hm := (HKm.out.next Hv.out HC2.out).cell
  have hp := (HKp.out.next Hv.out HC2.out).cell
  go_wp2_with fail
  clear h0 h1 h2 h3 hm hp
  have hg := gturn_chain (s ++ ⟨#[46, 120]⟩) (size_plus2 s _ _ hs) 13 rfl HC2.out (HC2.out.mk HM.out) (by simp [takeCode, giveCode, joinCode, awayCode, eachCode, turnGo, waitGo, turnCode] <;> omega)
  refine hg.mono ?_
  rintro e x3 ⟨rfl, C⟩
  have HC3 := Lib.hid C
  clear C hg
  have h0 := (HC3.out.mk HM.out).c0
  have h1 := (HC3.out.mk HM.out).c1
  have h2 := (HC3.out.mk HM.out).c2
  have h3 := (HC3.out.mk HM.out).c3
  have hm := (HKm.out.next Hv.out HC3.out).cell
  have hp := (HKp.out.next Hv.out HC3.out).cell
  go_wp2_with fail
  clear h0 h1 h2 h3 hm hp
  have hg := gturn_chain (s ++ ⟨#[46, 121]⟩) (size_plus2 s _ _ hs) 13 rfl HC3.out (HC3.out.mk HM.out) (by simp [takeCode, giveCode, joinCode, awayCode, eachCode, turnGo, waitGo, turnCode] <;> omega)
  refine hg.mono ?_
  rintro e x4 ⟨rfl, C⟩
  have HC4 := Lib.hid C
  clear C hg
  go_wp2
  refine wp_region_held_drew (S := fun W => W.cell? ⟨w1.heap.size, 0, none⟩ = some (.pointer (some ⟨b, 0, none⟩)) ∧ W.cell? ⟨b, 0, none⟩ = some (.string (opStr 13))) (by kernel_rfl) ⟨(Mod.refl noF _).drew.cell (HKm.out.next Hv.out HC4.out).cell (fun e => e), (Mod.refl noF _).drew.cell (HC4.out.mk HM.out).c0 (fun e => e)⟩ (fun hHeld => ?_)
  refine wpAnyH_take (i := 0) (oi := ?o4x0) (v := ?v4x0) ?q4x0 (by kernel_rfl) ?f4x0 ?g4x0 ?p4x0 ?u4x0 (by assumption) ?r4x0
  case q4x0 => (rw [List.getElem?_toArray]; rfl)
  case f4x0 => kernel_rfl
  case g4x0 => kernel_rfl
  case p4x0 => exact (fun _ _ _ h => h)
  case u4x0 => (refine Or.inl ⟨by rfl, ?_⟩; intro w hSw; (try dsimp only at hSw); go_simp; (try rw [if_neg (by omega)]); try with_reducible rfl)
  try simp only [Act.put, List.setIfInBounds_toArray, List.set_cons_zero, List.set_cons_succ]
  refine wpAnyH_take (i := 1) (oi := ?o4x1) (v := ?v4x1) ?q4x1 (by kernel_rfl) ?f4x1 ?g4x1 ?p4x1 ?u4x1 (by assumption) ?r4x1
  case q4x1 => (rw [List.getElem?_toArray]; rfl)
  case f4x1 => kernel_rfl
  case g4x1 => kernel_rfl
  case p4x1 => exact (fun _ _ _ h => h)
  case u4x1 => (refine Or.inl ⟨by rfl, ?_⟩; intro w hSw; (try dsimp only at hSw); go_simp; (try rw [if_neg (by omega)]); try with_reducible rfl)
  try simp only [Act.put, List.setIfInBounds_toArray, List.set_cons_zero, List.set_cons_succ]
  refine wpAnyH_take (i := 2) (oi := ?o4x2) (v := ?v4x2) ?q4x2 (by kernel_rfl) ?f4x2 ?g4x2 ?p4x2 ?u4x2 (by assumption) ?r4x2
  case q4x2 => (rw [List.getElem?_toArray]; rfl)
  case f4x2 => kernel_rfl
  case g4x2 => kernel_rfl
  case p4x2 => exact (fun _ _ _ h => h)
  case u4x2 => (refine Or.inl ⟨by rfl, ?_⟩; intro w hSw; (try dsimp only at hSw); go_simp; (try rw [if_neg (by omega)]); try with_reducible rfl)
  try simp only [Act.put, List.setIfInBounds_toArray, List.set_cons_zero, List.set_cons_succ]
  refine wpAnyH_take (i := 3) (oi := ?o4x3) (v := ?v4x3) ?q4x3 (by kernel_rfl) ?f4x3 ?g4x3 ?p4x3 ?u4x3 (by assumption) ?r4x3
  case q4x3 => (rw [List.getElem?_toArray]; rfl)
  case f4x3 => kernel_rfl
  case g4x3 => kernel_rfl
  case p4x3 => exact (fun _ _ _ h => h)
  case u4x3 => (refine Or.inl ⟨by rfl, ?_⟩; intro w hSw; (try dsimp only at hSw); go_simp; (try rw [if_neg (by omega)]); try with_reducible rfl)
  try simp only [Act.put, List.setIfInBounds_toArray, List.set_cons_zero, List.set_cons_succ]
  refine wpAnyH_take (i := 4) (oi := ?o4x4) (v := ?v4x4) ?q4x4 (by kernel_rfl) ?f4x4 ?g4x4 ?p4x4 ?u4x4 (by assumption) ?r4x4
  case q4x4 => (rw [List.getElem?_toArray]; rfl)
  case f4x4 => kernel_rfl
  case g4x4 => kernel_rfl
  case p4x4 => exact (fun _ _ _ h => h)
  case u4x4 => (refine Or.inl ⟨by rfl, ?_⟩; intro w hSw; (try dsimp only at hSw); go_simp; (try rw [if_neg (by omega)]); try with_reducible rfl)
  try simp only [Act.put, List.setIfInBounds_toArray, List.set_cons_zero, List.set_cons_succ]
  refine wpAnyH_take (i := 5) (oi := ?o4x5) (v := ?v4x5) ?q4x5 (by kernel_rfl) ?f4x5 ?g4x5 ?p4x5 ?u4x5 (by assumption) ?r4x5
  case q4x5 => (rw [List.getElem?_toArray]; rfl)
  case f4x5 => kernel_rfl
  case g4x5 => kernel_rfl
  case p4x5 => exact (fun _ _ _ h => h)
  case u4x5 => (refine Or.inl ⟨by rfl, ?_⟩; intro w hSw; (try dsimp only at hSw); go_simp; (try rw [if_neg (by omega)]); try with_reducible rfl)
  try simp only [Act.put, List.setIfInBounds_toArray, List.set_cons_zero, List.set_cons_succ]
  refine wpAnyH_take (i := 6) (oi := ?o4x6) (v := ?v4x6) ?q4x6 (by kernel_rfl) ?f4x6 ?g4x6 ?p4x6 ?u4x6 (by assumption) ?r4x6
  case q4x6 => (rw [List.getElem?_toArray]; rfl)
  case f4x6 => kernel_rfl
  case g4x6 => kernel_rfl
  case p4x6 => exact (fun _ _ _ h => h)
  case u4x6 => (refine Or.inl ⟨by rfl, ?_⟩; intro w hSw; (try dsimp only at hSw); go_simp; (try rw [if_neg (by omega)]); try with_reducible rfl)
  try simp only [Act.put, List.setIfInBounds_toArray, List.set_cons_zero, List.set_cons_succ]
  refine wpAnyH_take (i := 7) (oi := ?o4x7) (v := ?v4x7) ?q4x7 (by kernel_rfl) ?f4x7 ?g4x7 ?p4x7 ?u4x7 (by assumption) ?r4x7
  case q4x7 => (rw [List.getElem?_toArray]; rfl)
  case f4x7 => kernel_rfl
  case g4x7 => kernel_rfl
  case p4x7 => exact (fun _ _ _ h => h)
  case u4x7 => (refine Or.inl ⟨by rfl, ?_⟩; intro w hSw; (try dsimp only at hSw); go_simp; (try rw [if_neg (by omega)]); try with_reducible rfl)
  try simp only [Act.put, List.setIfInBounds_toArray, List.set_cons_zero, List.set_cons_succ]
  refine em_spine (items := [⟨none, 8, 50⟩]) (E := [⟨13, [], [], 3, 49⟩]) (r0 := 44) (by kernel_rfl) (by kernel_rfl) (by kernel_rfl) (by rfl) ?lb5 (by rfl) (by rfl) ?len5 (fun w' l' C => ⟨(HKm.out.next Hv.out C).cell, (C.mk HM.out).c0⟩) (HC4.out.quiet (Mod.refl _ _).drew) (by kernel_rfl) ?_
  case lb5 => (intro e he hk; simp only [List.mem_cons, List.not_mem_nil, or_false] at he; rcases he with rfl <;> (first | exact absurd rfl hk | exact congrArg Value.string (rfl)))
  case len5 => (first | (simp [takeCode, giveCode, joinCode, awayCode, eachCode, turnGo, waitGo, turnCode] <;> omega) | (simp <;> omega))
  intro U x5 C hU
  have u50 : U 50 = _ := hU 0 _ rfl
  simp only [spTmps, SpI.tmps, List.flatMap_cons, List.flatMap_nil, Option.map_some, Option.map_none, Option.toList_some, Option.toList_none, List.cons_append, List.nil_append, List.append_nil, patch, List.foldl_cons, List.foldl_nil, Act.put, List.setIfInBounds_toArray, List.set_cons_zero, List.set_cons_succ, u50]
  clear u50 hU hHeld
  simp only [List.map_cons, List.map_nil, EmC.ins, List.getD_cons_zero, List.getD_cons_succ, List.getD_nil] at C
  have HC5 := Lib.hid C
  clear C
  have h0 := (HC5.out.mk HM.out).c0
  have h1 := (HC5.out.mk HM.out).c1
  have h2 := (HC5.out.mk HM.out).c2
  have h3 := (HC5.out.mk HM.out).c3
  have hm := (HKm.out.next Hv.out HC5.out).cell
  have hp := (HKp.out.next Hv.out HC5.out).cell
  go_wp2_with fail
  clear h0 h1 h2 h3 hm hp
  have hg := ggive_chain HC5.out (HC5.out.mk HM.out) (by simp [takeCode, giveCode, joinCode, awayCode, eachCode, turnGo, waitGo, turnCode] <;> omega) Hn.out hs
  refine hg.mono ?_
  rintro e x6 ⟨rfl, C⟩
  have HC6 := Lib.hid C
  clear C hg
  have h0 := (HC6.out.mk HM.out).c0
  have h1 := (HC6.out.mk HM.out).c1
  have h2 := (HC6.out.mk HM.out).c2
  have h3 := (HC6.out.mk HM.out).c3
  have hm := (HKm.out.next Hv.out HC6.out).cell
  have hp := (HKp.out.next Hv.out HC6.out).cell
  obtain ⟨v, ec, hv⟩ := HC6.out.made (w := w) (by simp [Value.ownBlock]) Hm.out hb
  have Hv := Lib.hid hv
  clear hv
  go_wp2
  go_ret2
  exact ⟨v, rfl, by rw [← gwait2_eq]; simpa [List.append_assoc] using Hv.out⟩
end Go.Proofs.YtppihkneeolomaaGreatDoor
end
/- package grace, flavour 3: its code, made. -/
section
namespace Go.Proofs.YtppihkneeolomaaGreatDoor
open Go.RowKit Qs Qh
variable {w0 w w1 : World} {b o : Nat} {v0 : Value} {l : List Instr} {br s : ByteArray} {fe jo co : Bool} {u : Value} {c : Nat}
set_option maxRecDepth 4000 in
set_option maxHeartbeats 8000000 in
theorem genter3_ok (s : ByteArray) (w : World) (hn : nameB s.data.toList = true) (hs : s.size ≤ 4) :
    Calls Tryz.prog 75 #[.int .i64 3, .string s] w fun e w' => ∃ v, e = .returned (.tuple #[v, .nilIface]) ∧ Made (preC s.data.toList gc30) w v w' := by
  have Hn := Lib.hid hn
  clear hn
  go_enter Tryz.func75, Tryz.ntmps75
  go_wp2_with fail
  refine (begin3_ok s w Hn.out hs).mono ?_
  rintro e x0 ⟨b, rfl, hm, hb, E, M⟩
  have h3 := M.c3
  have Hm := Lib.hid hm
  clear hm hb E M
  go_wp2
  go_ret2
  exact ⟨_, rfl, InsRow.nil _ _, Hm.out.toBelow, by simp [Value.ownBlock]⟩
set_option maxRecDepth 4000 in
set_option maxHeartbeats 8000000 in
theorem gleave3_ok (s : ByteArray) (w : World) (hn : nameB s.data.toList = true) (hs : s.size ≤ 4) :
    Calls Tryz.prog 76 #[.int .i64 3, .string s] w fun e w' => ∃ v, e = .returned (.tuple #[v, .nilIface]) ∧ Made (preC s.data.toList gc31) w v w' := by
  have Hn := Lib.hid hn
  clear hn
  go_enter Tryz.func76, Tryz.ntmps76
  go_wp2_with fail
  refine (begin3_ok s w Hn.out hs).mono ?_
  rintro e x0 ⟨b, rfl, hm, hb, E, M⟩
  have h3 := M.c3
  have Hm := Lib.hid hm
  clear hm hb E M
  go_wp2
  go_ret2
  exact ⟨_, rfl, InsRow.nil _ _, Hm.out.toBelow, by simp [Value.ownBlock]⟩
set_option maxRecDepth 4000 in
set_option maxHeartbeats 8000000 in
theorem grest3_ok (s : ByteArray) (w : World) (hn : nameB s.data.toList = true) (hs : s.size ≤ 4) :
    Calls Tryz.prog 85 #[.int .i64 3, .string s] w fun e w' => ∃ v, e = .returned (.tuple #[v, .nilIface]) ∧ Made (preC s.data.toList gc32) w v w' := by
  have Hn := Lib.hid hn
  clear hn
  go_enter Tryz.func85, Tryz.ntmps85
  go_wp2_with fail
  refine (begin3_ok s w Hn.out hs).mono ?_
  rintro e x0 ⟨b, rfl, hm, hb, E, M⟩
  have HC := Lib.hid (Chain.start E)
  have HM := Lib.hid M
  have Hm := Lib.hid hm
  clear hm E M
  have h0 := (HC.out.mk HM.out).c0
  have h1 := (HC.out.mk HM.out).c1
  have h2 := (HC.out.mk HM.out).c2
  have h3 := (HC.out.mk HM.out).c3
  go_wp2_with fail
  refine (op3_chain (HC.out.quiet ((Mod.refl _ _).alloc _)) (by first | omega | simp) 6 _ rfl x0.heap.size 0 7 0 3 (by simp) (by simp) (by simp) (by simp)).mono ?_
  clear h0 h1 h2 h3
  rintro e x1 ⟨rfl, C⟩
  have HC1 := Lib.hid C
  clear C
  have h0 := (HC1.out.mk HM.out).c0
  have h1 := (HC1.out.mk HM.out).c1
  have h2 := (HC1.out.mk HM.out).c2
  have h3 := (HC1.out.mk HM.out).c3
  go_wp2_with fail
  refine (op3_chain (HC1.out.quiet ((Mod.refl _ _).alloc _)) (by simp [takeCode, giveCode, joinCode, awayCode, eachCode, turnGo, waitGo, turnCode] <;> omega) 7 _ rfl x1.heap.size 6 0 0 3 (by simp) (by simp) (by simp) (by simp)).mono ?_
  clear h0 h1 h2 h3
  rintro e x2 ⟨rfl, C⟩
  have HC2 := Lib.hid C
  clear C
  have h0 := (HC2.out.mk HM.out).c0
  have h1 := (HC2.out.mk HM.out).c1
  have h2 := (HC2.out.mk HM.out).c2
  have h3 := (HC2.out.mk HM.out).c3
  go_wp2_with fail
  refine (op0_chain HC2.out (by simp [takeCode, giveCode, joinCode, awayCode, eachCode, turnGo, waitGo, turnCode] <;> omega) 12 _ rfl).mono ?_
  clear h0 h1 h2 h3
  rintro e x3 ⟨rfl, C⟩
  have HC3 := Lib.hid C
  clear C
  obtain ⟨v, ec, hv⟩ := HC3.out.made (w := w) (by simp [Value.ownBlock]) Hm.out hb
  have Hv := Lib.hid hv
  clear hv
  go_wp2
  go_ret2
  exact ⟨v, rfl, by rw [← grest3_eq]; simpa [List.append_assoc] using Hv.out⟩
set_option maxRecDepth 4000 in
set_option maxHeartbeats 8000000 in
theorem ggone3_ok (s : ByteArray) (w : World) (hn : nameB s.data.toList = true) (hs : s.size ≤ 4) :
    Calls Tryz.prog 48 #[.int .i64 3, .string s] w fun e w' => ∃ v, e = .returned (.tuple #[v, .nilIface]) ∧ Made (preC s.data.toList gc33) w v w' := by
  have Hn := Lib.hid hn
  clear hn
  go_enter Tryz.func48, Tryz.ntmps48
  go_wp2_with fail
  refine (begin3_ok s w Hn.out hs).mono ?_
  rintro e x0 ⟨b, rfl, hm, hb, E, M⟩
  have HC := Lib.hid (Chain.start E)
  have HM := Lib.hid M
  have Hm := Lib.hid hm
  clear hm E M
  have h0 := (HC.out.mk HM.out).c0
  have h1 := (HC.out.mk HM.out).c1
  have h2 := (HC.out.mk HM.out).c2
  have h3 := (HC.out.mk HM.out).c3
  go_wp2_with fail
  clear h0 h1 h2 h3
  have hg := gaway_chain HC.out (by first | omega | simp)
  refine hg.mono ?_
  rintro e x1 ⟨rfl, C⟩
  have HC1 := Lib.hid C
  clear C hg
  obtain ⟨v, ec, hv⟩ := HC1.out.made (w := w) (by simp [Value.ownBlock]) Hm.out hb
  have Hv := Lib.hid hv
  clear hv
  go_wp2
  go_ret2
  exact ⟨v, rfl, by rw [← ggone3_eq]; simpa [List.append_assoc] using Hv.out⟩
set_option maxRecDepth 4000 in
set_option maxHeartbeats 8000000 in
theorem gwait3_ok (s : ByteArray) (w : World) (hn : nameB s.data.toList = true) (hs : s.size ≤ 4) :
    Calls Tryz.prog 86 #[.int .i64 3, .string s] w fun e w' => ∃ v, e = .returned (.tuple #[v, .nilIface]) ∧ Made (preC s.data.toList gc34) w v w' := by
  have Hn := Lib.hid hn
  clear hn
  go_enter Tryz.func86, Tryz.ntmps86
  go_wp2_with fail
  refine (begin3_ok s _ Hn.out hs).mono ?_
  rintro e w1 ⟨b, rfl, hm, hb0, E, M⟩
  have hsw := hm.size
  have hlb := E.lt
  have hb1 : w.heap.size < b := by simp at hb0; omega
  have hp0 : w1.cell? ⟨w.heap.size, 0, none⟩ = some (.string s) := hm.cell (by simp) (fun e => e)
  have hq : Mod noF w1 (w1.alloc (.cells #[.pointer (some ⟨b, 0, none⟩)] 135)) := (Mod.refl _ _).alloc _
  have E1 := E.quiet hq
  have HC := Lib.hid (Chain.start E1)
  have HM := Lib.hid (M.quiet hq)
  have Hm := Lib.hid ((((Mod.refl noF w).alloc _).trans0 hm).trans0 hq)
  have Hv := Lib.hid E1.cell
  have hcp : w.heap.size < w1.heap.size := by simp at hsw; omega
  have hrow : ∀ (c : Nat) v, (w1.alloc (.cells #[.pointer (some ⟨b, 0, none⟩)] 135)).cell? ⟨b, 4, none⟩ = some v → v.ownBlock ≠ some c := fun c v h e => by
    rw [E1.cell] at h; cases h; cases e
  have HKm := Lib.hid (⟨by simp, by simp, by omega, hrow _⟩ : Cap (w1.alloc (.cells #[.pointer (some ⟨b, 0, none⟩)] 135)) b w1.heap.size (.pointer (some ⟨b, 0, none⟩)))
  have HKp := Lib.hid (⟨hq.cell hp0 (fun e => e), by simp; omega, by omega, hrow _⟩ : Cap (w1.alloc (.cells #[.pointer (some ⟨b, 0, none⟩)] 135)) b w.heap.size (.string s))
  have hb : w.heap.size ≤ b := by omega
  clear hm E M E1 hq hp0 hrow hsw hb0 hb1
  have h0 := (HC.out.mk HM.out).c0
  have h1 := (HC.out.mk HM.out).c1
  have h2 := (HC.out.mk HM.out).c2
  have h3 := (HC.out.mk HM.out).c3
  have hm := (HKm.out.next Hv.out HC.out).cell
  have hp := (HKp.out.next Hv.out HC.out).cell
  go_wp2_with fail
  clear h0 h1 h2 h3 hm hp
  have hg := gaway_chain HC.out (by first | omega | simp)
  refine hg.mono ?_
  rintro e x1 ⟨rfl, C⟩
  have HC1 := Lib.hid C
  clear C hg
  have h0 := (HC1.out.mk HM.out).c0
  have h1 := (HC1.out.mk HM.out).c1
  have h2 := (HC1.out.mk HM.out).c2
  have h3 := (HC1.out.mk HM.out).c3
  have hm := (HKm.out.next Hv.out HC1.out).cell
  have hp := (HKp.out.next Hv.out HC1.out).cell
  go_wp2_with fail
  clear h0 h1 h2 h3 hm hp
  have hg := gtake_chain HC1.out (HC1.out.mk HM.out) (by simp [takeCode, giveCode, joinCode, awayCode, eachCode, turnGo, waitGo, turnCode] <;> omega) Hn.out hs
  refine hg.mono ?_
  rintro e x2 ⟨rfl, C⟩
  have HC2 := Lib.hid C
  clear C hg
  have h0 := (HC2.out.mk HM.out).c0
  have h1 := (HC2.out.mk HM.out).c1
  have h2 := (HC2.out.mk HM.out).c2
  have h3 := (HC2.out.mk HM.out).c3
  have hm := (HKm.out.next Hv.out HC2.out).cell
  have hp := (HKp.out.next Hv.out HC2.out).cell
  go_wp2_with fail
  refine (op3_chain (HC2.out.quiet ((Mod.refl _ _).alloc _)) (by simp [takeCode, giveCode, joinCode, awayCode, eachCode, turnGo, waitGo, turnCode] <;> omega) 6 _ rfl x2.heap.size 0 7 0 3 (by simp) (by simp) (by simp) (by simp)).mono ?_
  clear h0 h1 h2 h3 hm hp
  rintro e x3 ⟨rfl, C⟩
  have HC3 := Lib.hid C
  clear C
  have h0 := (HC3.out.mk HM.out).c0
  have h1 := (HC3.out.mk HM.out).c1
  have h2 := (HC3.out.mk HM.out).c2
  have h3 := (HC3.out.mk HM.out).c3
  have hm := (HKm.out.next Hv.out HC3.out).cell
  have hp := (HKp.out.next Hv.out HC3.out).cell
  go_wp2_with fail
  refine (op2_chain (HC3.out.quiet ((Mod.refl _ _).alloc _)) (by simp [takeCode, giveCode, joinCode, awayCode, eachCode, turnGo, waitGo, turnCode] <;> omega) 0 _ rfl x3.heap.size 1 2 2 (by simp) (by simp) (by simp)).mono ?_
  clear h0 h1 h2 h3 hm hp
  rintro e x4 ⟨rfl, C⟩
  have HC4 := Lib.hid C
  clear C
  have h0 := (HC4.out.mk HM.out).c0
  have h1 := (HC4.out.mk HM.out).c1
  have h2 := (HC4.out.mk HM.out).c2
  have h3 := (HC4.out.mk HM.out).c3
  have hm := (HKm.out.next Hv.out HC4.out).cell
  have hp := (HKp.out.next Hv.out HC4.out).cell
  go_wp2_with fail
  refine (op3_chain (HC4.out.quiet ((Mod.refl _ _).alloc _)) (by simp [takeCode, giveCode, joinCode, awayCode, eachCode, turnGo, waitGo, turnCode] <;> omega) 2 _ rfl x4.heap.size 0 0 1 3 (by simp) (by simp) (by simp) (by simp)).mono ?_
  clear h0 h1 h2 h3 hm hp
  rintro e x5 ⟨rfl, C⟩
  have HC5 := Lib.hid C
  clear C
  have h0 := (HC5.out.mk HM.out).c0
  have h1 := (HC5.out.mk HM.out).c1
  have h2 := (HC5.out.mk HM.out).c2
  have h3 := (HC5.out.mk HM.out).c3
  have hm := (HKm.out.next Hv.out HC5.out).cell
  have hp := (HKp.out.next Hv.out HC5.out).cell
  go_wp2_with fail
  refine (op3_chain (HC5.out.quiet ((Mod.refl _ _).alloc _)) (by simp [takeCode, giveCode, joinCode, awayCode, eachCode, turnGo, waitGo, turnCode] <;> omega) 7 _ rfl x5.heap.size 7 0 0 3 (by simp) (by simp) (by simp) (by simp)).mono ?_
  clear h0 h1 h2 h3 hm hp
  rintro e x6 ⟨rfl, C⟩
  have HC6 := Lib.hid C
  clear C
  have h0 := (HC6.out.mk HM.out).c0
  have h1 := (HC6.out.mk HM.out).c1
  have h2 := (HC6.out.mk HM.out).c2
  have h3 := (HC6.out.mk HM.out).c3
  have hm := (HKm.out.next Hv.out HC6.out).cell
  have hp := (HKp.out.next Hv.out HC6.out).cell
  go_wp2_with fail
  refine (op0_chain HC6.out (by simp [takeCode, giveCode, joinCode, awayCode, eachCode, turnGo, waitGo, turnCode] <;> omega) 12 _ rfl).mono ?_
  clear h0 h1 h2 h3 hm hp
  rintro e x7 ⟨rfl, C⟩
  have HC7 := Lib.hid C
  clear C
  have h0 := (HC7.out.mk HM.out).c0
  have h1 := (HC7.out.mk HM.out).c1
  have h2 := (HC7.out.mk HM.out).c2
  have h3 := (HC7.out.mk HM.out).c3
  have hm := (HKm.out.next Hv.out HC7.out).cell
  have hp := (HKp.out.next Hv.out HC7.out).cell
  go_wp2_with fail
  clear h0 h1 h2 h3 hm hp
  have hg := eachWait_chain (s ++ ⟨#[46, 120]⟩) (size_plus2 s _ _ hs) HC7.out (HKm.out.next Hv.out HC7.out) (HKp.out.next Hv.out HC7.out) (by omega) (by simp [takeCode, giveCode, joinCode, awayCode, eachCode, turnGo, waitGo, turnCode] <;> omega)
  refine hg.mono ?_
  rintro e x8 ⟨rfl, C⟩
  have HC8 := Lib.hid C
  clear C hg
  have h0 := (HC8.out.mk HM.out).c0
  have h1 := (HC8.out.mk HM.out).c1
  have h2 := (HC8.out.mk HM.out).c2
  have h3 := (HC8.out.mk HM.out).c3
  have hm := (HKm.out.next Hv.out HC8.out).cell
  have hp := (HKp.out.next Hv.out HC8.out).cell
  go_wp2_with fail
  clear h0 h1 h2 h3 hm hp
  have hg := ggive_chain HC8.out (HC8.out.mk HM.out) (by simp [takeCode, giveCode, joinCode, awayCode, eachCode, turnGo, waitGo, turnCode] <;> omega) Hn.out hs
  refine hg.mono ?_
  rintro e x9 ⟨rfl, C⟩
  have HC9 := Lib.hid C
  clear C hg
  have h0 := (HC9.out.mk HM.out).c0
  have h1 := (HC9.out.mk HM.out).c1
  have h2 := (HC9.out.mk HM.out).c2
  have h3 := (HC9.out.mk HM.out).c3
  have hm := (HKm.out.next Hv.out HC9.out).cell
  have hp := (HKp.out.next Hv.out HC9.out).cell
  go_wp2_with fail
  refine (op3_chain (HC9.out.quiet ((Mod.refl _ _).alloc _)) (by simp [takeCode, giveCode, joinCode, awayCode, eachCode, turnGo, waitGo, turnCode] <;> omega) 6 _ rfl x9.heap.size 0 7 0 3 (by simp) (by simp) (by simp) (by simp)).mono ?_
  clear h0 h1 h2 h3 hm hp
  rintro e x10 ⟨rfl, C⟩
  have HC10 := Lib.hid C
  clear C
  have h0 := (HC10.out.mk HM.out).c0
  have h1 := (HC10.out.mk HM.out).c1
  have h2 := (HC10.out.mk HM.out).c2
  have h3 := (HC10.out.mk HM.out).c3
  have hm := (HKm.out.next Hv.out HC10.out).cell
  have hp := (HKp.out.next Hv.out HC10.out).cell
  go_wp2_with fail
  refine (op3_chain (HC10.out.quiet ((Mod.refl _ _).alloc _)) (by simp [takeCode, giveCode, joinCode, awayCode, eachCode, turnGo, waitGo, turnCode] <;> omega) 7 _ rfl x10.heap.size 6 0 0 3 (by simp) (by simp) (by simp) (by simp)).mono ?_
  clear h0 h1 h2 h3 hm hp
  rintro e x11 ⟨rfl, C⟩
  have HC11 := Lib.hid C
  clear C
  have h0 := (HC11.out.mk HM.out).c0
  have h1 := (HC11.out.mk HM.out).c1
  have h2 := (HC11.out.mk HM.out).c2
  have h3 := (HC11.out.mk HM.out).c3
  have hm := (HKm.out.next Hv.out HC11.out).cell
  have hp := (HKp.out.next Hv.out HC11.out).cell
  go_wp2_with fail
  refine (op0_chain HC11.out (by simp [takeCode, giveCode, joinCode, awayCode, eachCode, turnGo, waitGo, turnCode] <;> omega) 12 _ rfl).mono ?_
  clear h0 h1 h2 h3 hm hp
  rintro e x12 ⟨rfl, C⟩
  have HC12 := Lib.hid C
  clear C
  have h0 := (HC12.out.mk HM.out).c0
  have h1 := (HC12.out.mk HM.out).c1
  have h2 := (HC12.out.mk HM.out).c2
  have h3 := (HC12.out.mk HM.out).c3
  have hm := (HKm.out.next Hv.out HC12.out).cell
  have hp := (HKp.out.next Hv.out HC12.out).cell
  obtain ⟨v, ec, hv⟩ := HC12.out.made (w := w) (by simp [Value.ownBlock]) Hm.out hb
  have Hv := Lib.hid hv
  clear hv
  go_wp2
  go_ret2
  exact ⟨v, rfl, by rw [← gwait3_eq]; simpa [List.append_assoc] using Hv.out⟩
end Go.Proofs.YtppihkneeolomaaGreatDoor
end
/- package grace, flavour 4: its code, made. -/
section
namespace Go.Proofs.YtppihkneeolomaaGreatDoor
open Go.RowKit Qs Qh
variable {w0 w w1 : World} {b o : Nat} {v0 : Value} {l : List Instr} {br s : ByteArray} {fe jo co : Bool} {u : Value} {c : Nat}
set_option maxRecDepth 4000 in
set_option maxHeartbeats 8000000 in
theorem genter4_ok (s : ByteArray) (w : World) (hn : nameB s.data.toList = true) (hs : s.size ≤ 4) :
    Calls Tryz.prog 75 #[.int .i64 4, .string s] w fun e w' => ∃ v, e = .returned (.tuple #[v, .nilIface]) ∧ Made (preC s.data.toList gc40) w v w' := by
  have Hn := Lib.hid hn
  clear hn
  go_enter Tryz.func75, Tryz.ntmps75
  go_wp2_with fail
  refine (begin4_ok s w Hn.out hs).mono ?_
  rintro e x0 ⟨b, rfl, hm, hb, E, M⟩
  have HC := Lib.hid (Chain.start E)
  have HM := Lib.hid M
  have Hm := Lib.hid hm
  clear hm E M
  have h0 := (HC.out.mk HM.out).c0
  have h1 := (HC.out.mk HM.out).c1
  have h2 := (HC.out.mk HM.out).c2
  have h3 := (HC.out.mk HM.out).c3
  go_wp2_with fail
  clear h0 h1 h2 h3
  have hg := gjoin_chain HC.out (HC.out.mk HM.out) (by first | omega | simp) Hn.out hs
  refine hg.mono ?_
  rintro e x1 ⟨rfl, C⟩
  have HC1 := Lib.hid C
  clear C hg
  have h0 := (HC1.out.mk HM.out).c0
  have h1 := (HC1.out.mk HM.out).c1
  have h2 := (HC1.out.mk HM.out).c2
  have h3 := (HC1.out.mk HM.out).c3
  go_wp2_with fail
  refine (op3_chain (HC1.out.quiet ((Mod.refl _ _).alloc _)) (by simp [takeCode, giveCode, joinCode, awayCode, eachCode, turnGo, waitGo, turnCode] <;> omega) 6 _ rfl x1.heap.size 0 6 0 3 (by simp) (by simp) (by simp) (by simp)).mono ?_
  clear h0 h1 h2 h3
  rintro e x2 ⟨rfl, C⟩
  have HC2 := Lib.hid C
  clear C
  have h0 := (HC2.out.mk HM.out).c0
  have h1 := (HC2.out.mk HM.out).c1
  have h2 := (HC2.out.mk HM.out).c2
  have h3 := (HC2.out.mk HM.out).c3
  go_wp2_with fail
  refine (op2_chain (HC2.out.quiet ((Mod.refl _ _).alloc _)) (by simp [takeCode, giveCode, joinCode, awayCode, eachCode, turnGo, waitGo, turnCode] <;> omega) 0 _ rfl x2.heap.size 1 255 2 (by simp) (by simp) (by simp)).mono ?_
  clear h0 h1 h2 h3
  rintro e x3 ⟨rfl, C⟩
  have HC3 := Lib.hid C
  clear C
  have h0 := (HC3.out.mk HM.out).c0
  have h1 := (HC3.out.mk HM.out).c1
  have h2 := (HC3.out.mk HM.out).c2
  have h3 := (HC3.out.mk HM.out).c3
  go_wp2_with fail
  refine (op3_chain (HC3.out.quiet ((Mod.refl _ _).alloc _)) (by simp [takeCode, giveCode, joinCode, awayCode, eachCode, turnGo, waitGo, turnCode] <;> omega) 4 _ rfl x3.heap.size 1 0 1 3 (by simp) (by simp) (by simp) (by simp)).mono ?_
  clear h0 h1 h2 h3
  rintro e x4 ⟨rfl, C⟩
  have HC4 := Lib.hid C
  clear C
  have h0 := (HC4.out.mk HM.out).c0
  have h1 := (HC4.out.mk HM.out).c1
  have h2 := (HC4.out.mk HM.out).c2
  have h3 := (HC4.out.mk HM.out).c3
  go_wp2_with fail
  refine (to1_chain (HC4.out.quiet ((Mod.refl _ _).alloc _)) (by simp [takeCode, giveCode, joinCode, awayCode, eachCode, turnGo, waitGo, turnCode] <;> omega) 14 _ rfl (s.data.toList ++ [46, 97]) _ (bytes_cat s _) x4.heap.size 1 1 (by simp) (by simp)).mono ?_
  clear h0 h1 h2 h3
  rintro e x5 ⟨rfl, C⟩
  have HC5 := Lib.hid C
  clear C
  have h0 := (HC5.out.mk HM.out).c0
  have h1 := (HC5.out.mk HM.out).c1
  have h2 := (HC5.out.mk HM.out).c2
  have h3 := (HC5.out.mk HM.out).c3
  go_wp2_with fail
  refine (op2_chain (HC5.out.quiet ((Mod.refl _ _).alloc _)) (by simp [takeCode, giveCode, joinCode, awayCode, eachCode, turnGo, waitGo, turnCode] <;> omega) 0 _ rfl x5.heap.size 1 1 2 (by simp) (by simp) (by simp)).mono ?_
  clear h0 h1 h2 h3
  rintro e x6 ⟨rfl, C⟩
  have HC6 := Lib.hid C
  clear C
  have h0 := (HC6.out.mk HM.out).c0
  have h1 := (HC6.out.mk HM.out).c1
  have h2 := (HC6.out.mk HM.out).c2
  have h3 := (HC6.out.mk HM.out).c3
  go_wp2_with fail
  refine (op3_chain (HC6.out.quiet ((Mod.refl _ _).alloc _)) (by simp [takeCode, giveCode, joinCode, awayCode, eachCode, turnGo, waitGo, turnCode] <;> omega) 2 _ rfl x6.heap.size 0 0 1 3 (by simp) (by simp) (by simp) (by simp)).mono ?_
  clear h0 h1 h2 h3
  rintro e x7 ⟨rfl, C⟩
  have HC7 := Lib.hid C
  clear C
  have h0 := (HC7.out.mk HM.out).c0
  have h1 := (HC7.out.mk HM.out).c1
  have h2 := (HC7.out.mk HM.out).c2
  have h3 := (HC7.out.mk HM.out).c3
  go_wp2_with fail
  refine (op3_chain (HC7.out.quiet ((Mod.refl _ _).alloc _)) (by simp [takeCode, giveCode, joinCode, awayCode, eachCode, turnGo, waitGo, turnCode] <;> omega) 7 _ rfl x7.heap.size 6 0 0 3 (by simp) (by simp) (by simp) (by simp)).mono ?_
  clear h0 h1 h2 h3
  rintro e x8 ⟨rfl, C⟩
  have HC8 := Lib.hid C
  clear C
  have h0 := (HC8.out.mk HM.out).c0
  have h1 := (HC8.out.mk HM.out).c1
  have h2 := (HC8.out.mk HM.out).c2
  have h3 := (HC8.out.mk HM.out).c3
  go_wp2_with fail
  refine (to0_chain HC8.out (by simp [takeCode, giveCode, joinCode, awayCode, eachCode, turnGo, waitGo, turnCode] <;> omega) 16 _ rfl (s.data.toList ++ [46, 98]) _ (bytes_cat s _)).mono ?_
  clear h0 h1 h2 h3
  rintro e x9 ⟨rfl, C⟩
  have HC9 := Lib.hid C
  clear C
  have h0 := (HC9.out.mk HM.out).c0
  have h1 := (HC9.out.mk HM.out).c1
  have h2 := (HC9.out.mk HM.out).c2
  have h3 := (HC9.out.mk HM.out).c3
  go_wp2_with fail
  refine (label_chain HC9.out (by simp [takeCode, giveCode, joinCode, awayCode, eachCode, turnGo, waitGo, turnCode] <;> omega) (s.data.toList ++ [46, 97]) _ (bytes_cat s _)).mono ?_
  clear h0 h1 h2 h3
  rintro e x10 ⟨rfl, C⟩
  have HC10 := Lib.hid C
  clear C
  have h0 := (HC10.out.mk HM.out).c0
  have h1 := (HC10.out.mk HM.out).c1
  have h2 := (HC10.out.mk HM.out).c2
  have h3 := (HC10.out.mk HM.out).c3
  go_wp2_with fail
  refine (op3_chain (HC10.out.quiet ((Mod.refl _ _).alloc _)) (by simp [takeCode, giveCode, joinCode, awayCode, eachCode, turnGo, waitGo, turnCode] <;> omega) 6 _ rfl x10.heap.size 0 7 0 3 (by simp) (by simp) (by simp) (by simp)).mono ?_
  clear h0 h1 h2 h3
  rintro e x11 ⟨rfl, C⟩
  have HC11 := Lib.hid C
  clear C
  have h0 := (HC11.out.mk HM.out).c0
  have h1 := (HC11.out.mk HM.out).c1
  have h2 := (HC11.out.mk HM.out).c2
  have h3 := (HC11.out.mk HM.out).c3
  go_wp2_with fail
  refine (op3_chain (HC11.out.quiet ((Mod.refl _ _).alloc _)) (by simp [takeCode, giveCode, joinCode, awayCode, eachCode, turnGo, waitGo, turnCode] <;> omega) 7 _ rfl x11.heap.size 6 0 0 3 (by simp) (by simp) (by simp) (by simp)).mono ?_
  clear h0 h1 h2 h3
  rintro e x12 ⟨rfl, C⟩
  have HC12 := Lib.hid C
  clear C
  have h0 := (HC12.out.mk HM.out).c0
  have h1 := (HC12.out.mk HM.out).c1
  have h2 := (HC12.out.mk HM.out).c2
  have h3 := (HC12.out.mk HM.out).c3
  go_wp2_with fail
  refine (op0_chain HC12.out (by simp [takeCode, giveCode, joinCode, awayCode, eachCode, turnGo, waitGo, turnCode] <;> omega) 12 _ rfl).mono ?_
  clear h0 h1 h2 h3
  rintro e x13 ⟨rfl, C⟩
  have HC13 := Lib.hid C
  clear C
  have h0 := (HC13.out.mk HM.out).c0
  have h1 := (HC13.out.mk HM.out).c1
  have h2 := (HC13.out.mk HM.out).c2
  have h3 := (HC13.out.mk HM.out).c3
  go_wp2_with fail
  refine (label_chain HC13.out (by simp [takeCode, giveCode, joinCode, awayCode, eachCode, turnGo, waitGo, turnCode] <;> omega) (s.data.toList ++ [46, 98]) _ (bytes_cat s _)).mono ?_
  clear h0 h1 h2 h3
  rintro e x14 ⟨rfl, C⟩
  have HC14 := Lib.hid C
  clear C
  obtain ⟨v, ec, hv⟩ := HC14.out.made (w := w) (by simp [Value.ownBlock]) Hm.out hb
  have Hv := Lib.hid hv
  clear hv
  go_wp2
  go_ret2
  exact ⟨v, rfl, by rw [← genter4_eq]; simpa [List.append_assoc] using Hv.out⟩
set_option maxRecDepth 4000 in
set_option maxHeartbeats 8000000 in
theorem gleave4_ok (s : ByteArray) (w : World) (hn : nameB s.data.toList = true) (hs : s.size ≤ 4) :
    Calls Tryz.prog 76 #[.int .i64 4, .string s] w fun e w' => ∃ v, e = .returned (.tuple #[v, .nilIface]) ∧ Made (preC s.data.toList gc41) w v w' := by
  have Hn := Lib.hid hn
  clear hn
  go_enter Tryz.func76, Tryz.ntmps76
  go_wp2_with fail
  refine (begin4_ok s w Hn.out hs).mono ?_
  rintro e x0 ⟨b, rfl, hm, hb, E, M⟩
  have HC := Lib.hid (Chain.start E)
  have HM := Lib.hid M
  have Hm := Lib.hid hm
  clear hm E M
  have h0 := (HC.out.mk HM.out).c0
  have h1 := (HC.out.mk HM.out).c1
  have h2 := (HC.out.mk HM.out).c2
  have h3 := (HC.out.mk HM.out).c3
  go_wp2_with fail
  refine (op0_chain HC.out (by first | omega | simp) 12 _ rfl).mono ?_
  clear h0 h1 h2 h3
  rintro e x1 ⟨rfl, C⟩
  have HC1 := Lib.hid C
  clear C
  have h0 := (HC1.out.mk HM.out).c0
  have h1 := (HC1.out.mk HM.out).c1
  have h2 := (HC1.out.mk HM.out).c2
  have h3 := (HC1.out.mk HM.out).c3
  go_wp2_with fail
  refine (op3_chain (HC1.out.quiet ((Mod.refl _ _).alloc _)) (by simp [takeCode, giveCode, joinCode, awayCode, eachCode, turnGo, waitGo, turnCode] <;> omega) 6 _ rfl x1.heap.size 0 6 0 3 (by simp) (by simp) (by simp) (by simp)).mono ?_
  clear h0 h1 h2 h3
  rintro e x2 ⟨rfl, C⟩
  have HC2 := Lib.hid C
  clear C
  have h0 := (HC2.out.mk HM.out).c0
  have h1 := (HC2.out.mk HM.out).c1
  have h2 := (HC2.out.mk HM.out).c2
  have h3 := (HC2.out.mk HM.out).c3
  go_wp2_with fail
  refine (op2_chain (HC2.out.quiet ((Mod.refl _ _).alloc _)) (by simp [takeCode, giveCode, joinCode, awayCode, eachCode, turnGo, waitGo, turnCode] <;> omega) 0 _ rfl x2.heap.size 1 1 2 (by simp) (by simp) (by simp)).mono ?_
  clear h0 h1 h2 h3
  rintro e x3 ⟨rfl, C⟩
  have HC3 := Lib.hid C
  clear C
  have h0 := (HC3.out.mk HM.out).c0
  have h1 := (HC3.out.mk HM.out).c1
  have h2 := (HC3.out.mk HM.out).c2
  have h3 := (HC3.out.mk HM.out).c3
  go_wp2_with fail
  refine (op3_chain (HC3.out.quiet ((Mod.refl _ _).alloc _)) (by simp [takeCode, giveCode, joinCode, awayCode, eachCode, turnGo, waitGo, turnCode] <;> omega) 3 _ rfl x3.heap.size 0 0 1 3 (by simp) (by simp) (by simp) (by simp)).mono ?_
  clear h0 h1 h2 h3
  rintro e x4 ⟨rfl, C⟩
  have HC4 := Lib.hid C
  clear C
  have h0 := (HC4.out.mk HM.out).c0
  have h1 := (HC4.out.mk HM.out).c1
  have h2 := (HC4.out.mk HM.out).c2
  have h3 := (HC4.out.mk HM.out).c3
  go_wp2_with fail
  refine (op3_chain (HC4.out.quiet ((Mod.refl _ _).alloc _)) (by simp [takeCode, giveCode, joinCode, awayCode, eachCode, turnGo, waitGo, turnCode] <;> omega) 7 _ rfl x4.heap.size 6 0 0 3 (by simp) (by simp) (by simp) (by simp)).mono ?_
  clear h0 h1 h2 h3
  rintro e x5 ⟨rfl, C⟩
  have HC5 := Lib.hid C
  clear C
  obtain ⟨v, ec, hv⟩ := HC5.out.made (w := w) (by simp [Value.ownBlock]) Hm.out hb
  have Hv := Lib.hid hv
  clear hv
  go_wp2
  go_ret2
  exact ⟨v, rfl, by rw [← gleave4_eq]; simpa [List.append_assoc] using Hv.out⟩
set_option maxRecDepth 4000 in
set_option maxHeartbeats 8000000 in
theorem grest4_ok (s : ByteArray) (w : World) (hn : nameB s.data.toList = true) (hs : s.size ≤ 4) :
    Calls Tryz.prog 85 #[.int .i64 4, .string s] w fun e w' => ∃ v, e = .returned (.tuple #[v, .nilIface]) ∧ Made (preC s.data.toList gc42) w v w' := by
  have Hn := Lib.hid hn
  clear hn
  go_enter Tryz.func85, Tryz.ntmps85
  go_wp2_with fail
  refine (begin4_ok s w Hn.out hs).mono ?_
  rintro e x0 ⟨b, rfl, hm, hb, E, M⟩
  have h3 := M.c3
  have Hm := Lib.hid hm
  clear hm hb E M
  go_wp2
  go_ret2
  exact ⟨_, rfl, InsRow.nil _ _, Hm.out.toBelow, by simp [Value.ownBlock]⟩
set_option maxRecDepth 4000 in
set_option maxHeartbeats 8000000 in
theorem ggone4_ok (s : ByteArray) (w : World) (hn : nameB s.data.toList = true) (hs : s.size ≤ 4) :
    Calls Tryz.prog 48 #[.int .i64 4, .string s] w fun e w' => ∃ v, e = .returned (.tuple #[v, .nilIface]) ∧ Made (preC s.data.toList gc43) w v w' := by
  have Hn := Lib.hid hn
  clear hn
  go_enter Tryz.func48, Tryz.ntmps48
  go_wp2_with fail
  refine (begin4_ok s w Hn.out hs).mono ?_
  rintro e x0 ⟨b, rfl, hm, hb, E, M⟩
  have h3 := M.c3
  have Hm := Lib.hid hm
  clear hm hb E M
  go_wp2
  go_ret2
  exact ⟨_, rfl, InsRow.nil _ _, Hm.out.toBelow, by simp [Value.ownBlock]⟩
set_option maxRecDepth 4000 in
set_option maxHeartbeats 8000000 in
theorem gwait4_ok (s : ByteArray) (w : World) (hn : nameB s.data.toList = true) (hs : s.size ≤ 4) :
    Calls Tryz.prog 86 #[.int .i64 4, .string s] w fun e w' => ∃ v, e = .returned (.tuple #[v, .nilIface]) ∧ Made (preC s.data.toList gc44) w v w' := by
  have Hn := Lib.hid hn
  clear hn
  go_enter Tryz.func86, Tryz.ntmps86
  go_wp2_with fail
  refine (begin4_ok s _ Hn.out hs).mono ?_
  rintro e w1 ⟨b, rfl, hm, hb0, E, M⟩
  have hsw := hm.size
  have hlb := E.lt
  have hb1 : w.heap.size < b := by simp at hb0; omega
  have hp0 : w1.cell? ⟨w.heap.size, 0, none⟩ = some (.string s) := hm.cell (by simp) (fun e => e)
  have hq : Mod noF w1 (w1.alloc (.cells #[.pointer (some ⟨b, 0, none⟩)] 135)) := (Mod.refl _ _).alloc _
  have E1 := E.quiet hq
  have HC := Lib.hid (Chain.start E1)
  have HM := Lib.hid (M.quiet hq)
  have Hm := Lib.hid ((((Mod.refl noF w).alloc _).trans0 hm).trans0 hq)
  have Hv := Lib.hid E1.cell
  have hcp : w.heap.size < w1.heap.size := by simp at hsw; omega
  have hrow : ∀ (c : Nat) v, (w1.alloc (.cells #[.pointer (some ⟨b, 0, none⟩)] 135)).cell? ⟨b, 4, none⟩ = some v → v.ownBlock ≠ some c := fun c v h e => by
    rw [E1.cell] at h; cases h; cases e
  have HKm := Lib.hid (⟨by simp, by simp, by omega, hrow _⟩ : Cap (w1.alloc (.cells #[.pointer (some ⟨b, 0, none⟩)] 135)) b w1.heap.size (.pointer (some ⟨b, 0, none⟩)))
  have HKp := Lib.hid (⟨hq.cell hp0 (fun e => e), by simp; omega, by omega, hrow _⟩ : Cap (w1.alloc (.cells #[.pointer (some ⟨b, 0, none⟩)] 135)) b w.heap.size (.string s))
  have hb : w.heap.size ≤ b := by omega
  clear hm E M E1 hq hp0 hrow hsw hb0 hb1
  have h0 := (HC.out.mk HM.out).c0
  have h1 := (HC.out.mk HM.out).c1
  have h2 := (HC.out.mk HM.out).c2
  have h3 := (HC.out.mk HM.out).c3
  have hm := (HKm.out.next Hv.out HC.out).cell
  have hp := (HKp.out.next Hv.out HC.out).cell
  go_wp2
  clear h0 h1 h2 h3 hm hp
  go_wp2
  refine wp_region_held_drew (S := fun W => W.cell? ⟨w1.heap.size, 0, none⟩ = some (.pointer (some ⟨b, 0, none⟩)) ∧ W.cell? ⟨b, 0, none⟩ = some (.string (opStr 12))) (by kernel_rfl) ⟨(Mod.refl noF _).drew.cell (HKm.out.next Hv.out HC.out).cell (fun e => e), (Mod.refl noF _).drew.cell (HC.out.mk HM.out).c0 (fun e => e)⟩ (fun hHeld => ?_)
  refine wpAnyH_take (i := 0) (oi := ?o0x0) (v := ?v0x0) ?q0x0 (by kernel_rfl) ?f0x0 ?g0x0 ?p0x0 ?u0x0 (by assumption) ?r0x0
  case q0x0 => (rw [List.getElem?_toArray]; rfl)
  case f0x0 => kernel_rfl
  case g0x0 => kernel_rfl
  case p0x0 => exact (fun _ _ _ h => h)
  case u0x0 => (refine Or.inl ⟨by rfl, ?_⟩; intro w hSw; (try dsimp only at hSw); go_simp; (try rw [if_neg (by omega)]); try with_reducible rfl)
  try simp only [Act.put, List.setIfInBounds_toArray, List.set_cons_zero, List.set_cons_succ]
  refine wpAnyH_take (i := 1) (oi := ?o0x1) (v := ?v0x1) ?q0x1 (by kernel_rfl) ?f0x1 ?g0x1 ?p0x1 ?u0x1 (by assumption) ?r0x1
  case q0x1 => (rw [List.getElem?_toArray]; rfl)
  case f0x1 => kernel_rfl
  case g0x1 => kernel_rfl
  case p0x1 => exact (fun _ _ _ h => h)
  case u0x1 => (refine Or.inl ⟨by rfl, ?_⟩; intro w hSw; (try dsimp only at hSw); go_simp; (try rw [if_neg (by omega)]); try with_reducible rfl)
  try simp only [Act.put, List.setIfInBounds_toArray, List.set_cons_zero, List.set_cons_succ]
  refine wpAnyH_take (i := 2) (oi := ?o0x2) (v := ?v0x2) ?q0x2 (by kernel_rfl) ?f0x2 ?g0x2 ?p0x2 ?u0x2 (by assumption) ?r0x2
  case q0x2 => (rw [List.getElem?_toArray]; rfl)
  case f0x2 => kernel_rfl
  case g0x2 => kernel_rfl
  case p0x2 => exact (fun _ _ _ h => h)
  case u0x2 => (refine Or.inl ⟨by rfl, ?_⟩; intro w hSw; (try dsimp only at hSw); go_simp; (try rw [if_neg (by omega)]); try with_reducible rfl)
  try simp only [Act.put, List.setIfInBounds_toArray, List.set_cons_zero, List.set_cons_succ]
  refine wpAnyH_take (i := 3) (oi := ?o0x3) (v := ?v0x3) ?q0x3 (by kernel_rfl) ?f0x3 ?g0x3 ?p0x3 ?u0x3 (by assumption) ?r0x3
  case q0x3 => (rw [List.getElem?_toArray]; rfl)
  case f0x3 => kernel_rfl
  case g0x3 => kernel_rfl
  case p0x3 => exact (fun _ _ _ h => h)
  case u0x3 => (refine Or.inl ⟨by rfl, ?_⟩; intro w hSw; (try dsimp only at hSw); go_simp; (try rw [if_neg (by omega)]); try with_reducible rfl)
  try simp only [Act.put, List.setIfInBounds_toArray, List.set_cons_zero, List.set_cons_succ]
  refine wpAnyH_take (i := 4) (oi := ?o0x4) (v := ?v0x4) ?q0x4 (by kernel_rfl) ?f0x4 ?g0x4 ?p0x4 ?u0x4 (by assumption) ?r0x4
  case q0x4 => (rw [List.getElem?_toArray]; rfl)
  case f0x4 => kernel_rfl
  case g0x4 => kernel_rfl
  case p0x4 => exact (fun _ _ _ h => h)
  case u0x4 => (refine Or.inl ⟨by rfl, ?_⟩; intro w hSw; (try dsimp only at hSw); go_simp; (try rw [if_neg (by omega)]); try with_reducible rfl)
  try simp only [Act.put, List.setIfInBounds_toArray, List.set_cons_zero, List.set_cons_succ]
  refine wpAnyH_take (i := 5) (oi := ?o0x5) (v := ?v0x5) ?q0x5 (by kernel_rfl) ?f0x5 ?g0x5 ?p0x5 ?u0x5 (by assumption) ?r0x5
  case q0x5 => (rw [List.getElem?_toArray]; rfl)
  case f0x5 => kernel_rfl
  case g0x5 => kernel_rfl
  case p0x5 => exact (fun _ _ _ h => h)
  case u0x5 => (refine Or.inl ⟨by rfl, ?_⟩; intro w hSw; (try dsimp only at hSw); go_simp; (try rw [if_neg (by omega)]); try with_reducible rfl)
  try simp only [Act.put, List.setIfInBounds_toArray, List.set_cons_zero, List.set_cons_succ]
  refine wpAnyH_take (i := 6) (oi := ?o0x6) (v := ?v0x6) ?q0x6 (by kernel_rfl) ?f0x6 ?g0x6 ?p0x6 ?u0x6 (by assumption) ?r0x6
  case q0x6 => (rw [List.getElem?_toArray]; rfl)
  case f0x6 => kernel_rfl
  case g0x6 => kernel_rfl
  case p0x6 => exact (fun _ _ _ h => h)
  case u0x6 => (refine Or.inl ⟨by rfl, ?_⟩; intro w hSw; (try dsimp only at hSw); go_simp; (try rw [if_neg (by omega)]); try with_reducible rfl)
  try simp only [Act.put, List.setIfInBounds_toArray, List.set_cons_zero, List.set_cons_succ]
  refine wpAnyH_take (i := 7) (oi := ?o0x7) (v := ?v0x7) ?q0x7 (by kernel_rfl) ?f0x7 ?g0x7 ?p0x7 ?u0x7 (by assumption) ?r0x7
  case q0x7 => (rw [List.getElem?_toArray]; rfl)
  case f0x7 => kernel_rfl
  case g0x7 => kernel_rfl
  case p0x7 => exact (fun _ _ _ h => h)
  case u0x7 => (refine Or.inl ⟨by rfl, ?_⟩; intro w hSw; (try dsimp only at hSw); go_simp; (try rw [if_neg (by omega)]); try with_reducible rfl)
  try simp only [Act.put, List.setIfInBounds_toArray, List.set_cons_zero, List.set_cons_succ]
  refine em_spine (items := [⟨none, 8, 31⟩]) (E := [⟨12, [], [], 3, 30⟩]) (r0 := 25) (by kernel_rfl) (by kernel_rfl) (by kernel_rfl) (by rfl) ?lb1 (by rfl) (by rfl) ?len1 (fun w' l' C => ⟨(HKm.out.next Hv.out C).cell, (C.mk HM.out).c0⟩) (HC.out.quiet (Mod.refl _ _).drew) (by kernel_rfl) ?_
  case lb1 => (intro e he hk; simp only [List.mem_cons, List.not_mem_nil, or_false] at he; rcases he with rfl <;> (first | exact absurd rfl hk | exact congrArg Value.string (rfl)))
  case len1 => (first | (simp [takeCode, giveCode, joinCode, awayCode, eachCode, turnGo, waitGo, turnCode] <;> omega) | (simp <;> omega))
  intro U x1 C hU
  have u31 : U 31 = _ := hU 0 _ rfl
  simp only [spTmps, SpI.tmps, List.flatMap_cons, List.flatMap_nil, Option.map_some, Option.map_none, Option.toList_some, Option.toList_none, List.cons_append, List.nil_append, List.append_nil, patch, List.foldl_cons, List.foldl_nil, Act.put, List.setIfInBounds_toArray, List.set_cons_zero, List.set_cons_succ, u31]
  clear u31 hU hHeld
  simp only [List.map_cons, List.map_nil, EmC.ins, List.getD_cons_zero, List.getD_cons_succ, List.getD_nil] at C
  have HC1 := Lib.hid C
  clear C
  have h0 := (HC1.out.mk HM.out).c0
  have h1 := (HC1.out.mk HM.out).c1
  have h2 := (HC1.out.mk HM.out).c2
  have h3 := (HC1.out.mk HM.out).c3
  have hm := (HKm.out.next Hv.out HC1.out).cell
  have hp := (HKp.out.next Hv.out HC1.out).cell
  go_wp2_with fail
  clear h0 h1 h2 h3 hm hp
  have hg := gtake_chain HC1.out (HC1.out.mk HM.out) (by simp [takeCode, giveCode, joinCode, awayCode, eachCode, turnGo, waitGo, turnCode] <;> omega) Hn.out hs
  refine hg.mono ?_
  rintro e x2 ⟨rfl, C⟩
  have HC2 := Lib.hid C
  clear C hg
  have h0 := (HC2.out.mk HM.out).c0
  have h1 := (HC2.out.mk HM.out).c1
  have h2 := (HC2.out.mk HM.out).c2
  have h3 := (HC2.out.mk HM.out).c3
  have hm := (HKm.out.next Hv.out HC2.out).cell
  have hp := (HKp.out.next Hv.out HC2.out).cell
  go_wp2_with fail
  clear h0 h1 h2 h3 hm hp
  have hg := gturn_chain (s ++ ⟨#[46, 120]⟩) (size_plus2 s _ _ hs) 12 rfl HC2.out (HC2.out.mk HM.out) (by simp [takeCode, giveCode, joinCode, awayCode, eachCode, turnGo, waitGo, turnCode] <;> omega)
  refine hg.mono ?_
  rintro e x3 ⟨rfl, C⟩
  have HC3 := Lib.hid C
  clear C hg
  have h0 := (HC3.out.mk HM.out).c0
  have h1 := (HC3.out.mk HM.out).c1
  have h2 := (HC3.out.mk HM.out).c2
  have h3 := (HC3.out.mk HM.out).c3
  have hm := (HKm.out.next Hv.out HC3.out).cell
  have hp := (HKp.out.next Hv.out HC3.out).cell
  go_wp2_with fail
  clear h0 h1 h2 h3 hm hp
  have hg := gturn_chain (s ++ ⟨#[46, 121]⟩) (size_plus2 s _ _ hs) 12 rfl HC3.out (HC3.out.mk HM.out) (by simp [takeCode, giveCode, joinCode, awayCode, eachCode, turnGo, waitGo, turnCode] <;> omega)
  refine hg.mono ?_
  rintro e x4 ⟨rfl, C⟩
  have HC4 := Lib.hid C
  clear C hg
  go_wp2
  refine wp_region_held_drew (S := fun W => W.cell? ⟨w1.heap.size, 0, none⟩ = some (.pointer (some ⟨b, 0, none⟩)) ∧ W.cell? ⟨b, 0, none⟩ = some (.string (opStr 12))) (by kernel_rfl) ⟨(Mod.refl noF _).drew.cell (HKm.out.next Hv.out HC4.out).cell (fun e => e), (Mod.refl noF _).drew.cell (HC4.out.mk HM.out).c0 (fun e => e)⟩ (fun hHeld => ?_)
  refine wpAnyH_take (i := 0) (oi := ?o4x0) (v := ?v4x0) ?q4x0 (by kernel_rfl) ?f4x0 ?g4x0 ?p4x0 ?u4x0 (by assumption) ?r4x0
  case q4x0 => (rw [List.getElem?_toArray]; rfl)
  case f4x0 => kernel_rfl
  case g4x0 => kernel_rfl
  case p4x0 => exact (fun _ _ _ h => h)
  case u4x0 => (refine Or.inl ⟨by rfl, ?_⟩; intro w hSw; (try dsimp only at hSw); go_simp; (try rw [if_neg (by omega)]); try with_reducible rfl)
  try simp only [Act.put, List.setIfInBounds_toArray, List.set_cons_zero, List.set_cons_succ]
  refine wpAnyH_take (i := 1) (oi := ?o4x1) (v := ?v4x1) ?q4x1 (by kernel_rfl) ?f4x1 ?g4x1 ?p4x1 ?u4x1 (by assumption) ?r4x1
  case q4x1 => (rw [List.getElem?_toArray]; rfl)
  case f4x1 => kernel_rfl
  case g4x1 => kernel_rfl
  case p4x1 => exact (fun _ _ _ h => h)
  case u4x1 => (refine Or.inl ⟨by rfl, ?_⟩; intro w hSw; (try dsimp only at hSw); go_simp; (try rw [if_neg (by omega)]); try with_reducible rfl)
  try simp only [Act.put, List.setIfInBounds_toArray, List.set_cons_zero, List.set_cons_succ]
  refine wpAnyH_take (i := 2) (oi := ?o4x2) (v := ?v4x2) ?q4x2 (by kernel_rfl) ?f4x2 ?g4x2 ?p4x2 ?u4x2 (by assumption) ?r4x2
  case q4x2 => (rw [List.getElem?_toArray]; rfl)
  case f4x2 => kernel_rfl
  case g4x2 => kernel_rfl
  case p4x2 => exact (fun _ _ _ h => h)
  case u4x2 => (refine Or.inl ⟨by rfl, ?_⟩; intro w hSw; (try dsimp only at hSw); go_simp; (try rw [if_neg (by omega)]); try with_reducible rfl)
  try simp only [Act.put, List.setIfInBounds_toArray, List.set_cons_zero, List.set_cons_succ]
  refine wpAnyH_take (i := 3) (oi := ?o4x3) (v := ?v4x3) ?q4x3 (by kernel_rfl) ?f4x3 ?g4x3 ?p4x3 ?u4x3 (by assumption) ?r4x3
  case q4x3 => (rw [List.getElem?_toArray]; rfl)
  case f4x3 => kernel_rfl
  case g4x3 => kernel_rfl
  case p4x3 => exact (fun _ _ _ h => h)
  case u4x3 => (refine Or.inl ⟨by rfl, ?_⟩; intro w hSw; (try dsimp only at hSw); go_simp; (try rw [if_neg (by omega)]); try with_reducible rfl)
  try simp only [Act.put, List.setIfInBounds_toArray, List.set_cons_zero, List.set_cons_succ]
  refine wpAnyH_take (i := 4) (oi := ?o4x4) (v := ?v4x4) ?q4x4 (by kernel_rfl) ?f4x4 ?g4x4 ?p4x4 ?u4x4 (by assumption) ?r4x4
  case q4x4 => (rw [List.getElem?_toArray]; rfl)
  case f4x4 => kernel_rfl
  case g4x4 => kernel_rfl
  case p4x4 => exact (fun _ _ _ h => h)
  case u4x4 => (refine Or.inl ⟨by rfl, ?_⟩; intro w hSw; (try dsimp only at hSw); go_simp; (try rw [if_neg (by omega)]); try with_reducible rfl)
  try simp only [Act.put, List.setIfInBounds_toArray, List.set_cons_zero, List.set_cons_succ]
  refine wpAnyH_take (i := 5) (oi := ?o4x5) (v := ?v4x5) ?q4x5 (by kernel_rfl) ?f4x5 ?g4x5 ?p4x5 ?u4x5 (by assumption) ?r4x5
  case q4x5 => (rw [List.getElem?_toArray]; rfl)
  case f4x5 => kernel_rfl
  case g4x5 => kernel_rfl
  case p4x5 => exact (fun _ _ _ h => h)
  case u4x5 => (refine Or.inl ⟨by rfl, ?_⟩; intro w hSw; (try dsimp only at hSw); go_simp; (try rw [if_neg (by omega)]); try with_reducible rfl)
  try simp only [Act.put, List.setIfInBounds_toArray, List.set_cons_zero, List.set_cons_succ]
  refine wpAnyH_take (i := 6) (oi := ?o4x6) (v := ?v4x6) ?q4x6 (by kernel_rfl) ?f4x6 ?g4x6 ?p4x6 ?u4x6 (by assumption) ?r4x6
  case q4x6 => (rw [List.getElem?_toArray]; rfl)
  case f4x6 => kernel_rfl
  case g4x6 => kernel_rfl
  case p4x6 => exact (fun _ _ _ h => h)
  case u4x6 => (refine Or.inl ⟨by rfl, ?_⟩; intro w hSw; (try dsimp only at hSw); go_simp; (try rw [if_neg (by omega)]); try with_reducible rfl)
  try simp only [Act.put, List.setIfInBounds_toArray, List.set_cons_zero, List.set_cons_succ]
  refine wpAnyH_take (i := 7) (oi := ?o4x7) (v := ?v4x7) ?q4x7 (by kernel_rfl) ?f4x7 ?g4x7 ?p4x7 ?u4x7 (by assumption) ?r4x7
  case q4x7 => (rw [List.getElem?_toArray]; rfl)
  case f4x7 => kernel_rfl
  case g4x7 => kernel_rfl
  case p4x7 => exact (fun _ _ _ h => h)
  case u4x7 => (refine Or.inl ⟨by rfl, ?_⟩; intro w hSw; (try dsimp only at hSw); go_simp; (try rw [if_neg (by omega)]); try with_reducible rfl)
  try simp only [Act.put, List.setIfInBounds_toArray, List.set_cons_zero, List.set_cons_succ]
  refine em_spine (items := [⟨none, 8, 50⟩]) (E := [⟨12, [], [], 3, 49⟩]) (r0 := 44) (by kernel_rfl) (by kernel_rfl) (by kernel_rfl) (by rfl) ?lb5 (by rfl) (by rfl) ?len5 (fun w' l' C => ⟨(HKm.out.next Hv.out C).cell, (C.mk HM.out).c0⟩) (HC4.out.quiet (Mod.refl _ _).drew) (by kernel_rfl) ?_
  case lb5 => (intro e he hk; simp only [List.mem_cons, List.not_mem_nil, or_false] at he; rcases he with rfl <;> (first | exact absurd rfl hk | exact congrArg Value.string (rfl)))
  case len5 => (first | (simp [takeCode, giveCode, joinCode, awayCode, eachCode, turnGo, waitGo, turnCode] <;> omega) | (simp <;> omega))
  intro U x5 C hU
  have u50 : U 50 = _ := hU 0 _ rfl
  simp only [spTmps, SpI.tmps, List.flatMap_cons, List.flatMap_nil, Option.map_some, Option.map_none, Option.toList_some, Option.toList_none, List.cons_append, List.nil_append, List.append_nil, patch, List.foldl_cons, List.foldl_nil, Act.put, List.setIfInBounds_toArray, List.set_cons_zero, List.set_cons_succ, u50]
  clear u50 hU hHeld
  simp only [List.map_cons, List.map_nil, EmC.ins, List.getD_cons_zero, List.getD_cons_succ, List.getD_nil] at C
  have HC5 := Lib.hid C
  clear C
  have h0 := (HC5.out.mk HM.out).c0
  have h1 := (HC5.out.mk HM.out).c1
  have h2 := (HC5.out.mk HM.out).c2
  have h3 := (HC5.out.mk HM.out).c3
  have hm := (HKm.out.next Hv.out HC5.out).cell
  have hp := (HKp.out.next Hv.out HC5.out).cell
  go_wp2_with fail
  clear h0 h1 h2 h3 hm hp
  have hg := ggive_chain HC5.out (HC5.out.mk HM.out) (by simp [takeCode, giveCode, joinCode, awayCode, eachCode, turnGo, waitGo, turnCode] <;> omega) Hn.out hs
  refine hg.mono ?_
  rintro e x6 ⟨rfl, C⟩
  have HC6 := Lib.hid C
  clear C hg
  have h0 := (HC6.out.mk HM.out).c0
  have h1 := (HC6.out.mk HM.out).c1
  have h2 := (HC6.out.mk HM.out).c2
  have h3 := (HC6.out.mk HM.out).c3
  have hm := (HKm.out.next Hv.out HC6.out).cell
  have hp := (HKp.out.next Hv.out HC6.out).cell
  obtain ⟨v, ec, hv⟩ := HC6.out.made (w := w) (by simp [Value.ownBlock]) Hm.out hb
  have Hv := Lib.hid hv
  clear hv
  go_wp2
  go_ret2
  exact ⟨v, rfl, by rw [← gwait4_eq]; simpa [List.append_assoc] using Hv.out⟩
end Go.Proofs.YtppihkneeolomaaGreatDoor
end
/- package client: a part of grace. -/
section
namespace Go.Proofs.YtppihkneeolomaaGreatDoor
open Go.RowKit Qs Qh
/-- Grace's parts by numbers. -/
def graceFn : Nat → Nat
  | 0 => 75
  | 1 => 76
  | 2 => 85
  | 3 => 48
  | _ => 86
theorem gcode_lenAll : ((List.range 5).all fun f => (List.range 5).all fun k => decide ((gcode f k).length ≤ 70)) = true := by decide +kernel
theorem gcode_len {f j : Nat} (h4 : f ≤ 4) (hj : j < 5) : (gcode f j).length ≤ 70 := by
  have h := List.all_eq_true.1 (List.all_eq_true.1 gcode_lenAll f (List.mem_range.2 (by omega))) j (List.mem_range.2 hj)
  simpa using h
theorem grace_good {f j : Nat} (h1 : 1 ≤ f) (h4 : f ≤ 4) (hj : j < 5) (s : ByteArray) (w : World) (hn : nameB s.data.toList = true) (hs : s.size ≤ 4) :
    Calls Tryz.prog (graceFn j) #[.int .i64 f, .string s] w fun e w' => ∃ v, e = .returned (.tuple #[v, .nilIface]) ∧ Made (preC s.data.toList (gcode f j)) w v w' := by
  match f, h1, h4, j, hj with
  | 1, _, _, 0, _ => exact genter1_ok s w hn hs
  | 1, _, _, 1, _ => exact gleave1_ok s w hn hs
  | 1, _, _, 2, _ => exact grest1_ok s w hn hs
  | 1, _, _, 3, _ => exact ggone1_ok s w hn hs
  | 1, _, _, 4, _ => exact gwait1_ok s w hn hs
  | 2, _, _, 0, _ => exact genter2_ok s w hn hs
  | 2, _, _, 1, _ => exact gleave2_ok s w hn hs
  | 2, _, _, 2, _ => exact grest2_ok s w hn hs
  | 2, _, _, 3, _ => exact ggone2_ok s w hn hs
  | 2, _, _, 4, _ => exact gwait2_ok s w hn hs
  | 3, _, _, 0, _ => exact genter3_ok s w hn hs
  | 3, _, _, 1, _ => exact gleave3_ok s w hn hs
  | 3, _, _, 2, _ => exact grest3_ok s w hn hs
  | 3, _, _, 3, _ => exact ggone3_ok s w hn hs
  | 3, _, _, 4, _ => exact gwait3_ok s w hn hs
  | 4, _, _, 0, _ => exact genter4_ok s w hn hs
  | 4, _, _, 1, _ => exact gleave4_ok s w hn hs
  | 4, _, _, 2, _ => exact grest4_ok s w hn hs
  | 4, _, _, 3, _ => exact ggone4_ok s w hn hs
  | 4, _, _, 4, _ => exact gwait4_ok s w hn hs
variable {N0 K : Nat} {big : Prop} {t nx : Int} {f : Nat} {w w1 w2 : World} {b k : Nat} {v v1 v2 : Value} {l : List Instr}
set_option maxHeartbeats 8000000 in
theorem part0_ok (HF : FreshH N0 big f t nx K) (hT : big → lowT N0) (h1 : 1 ≤ f) (h4 : f ≤ 4) (M : MkA N0 big f t nx w b v l k) (hk : k < K) (hK : K ≤ 120) (hl : l.length ≤ 100000) :
    Calls Tryz.prog 47 #[.pointer (some ⟨b, 0, none⟩), .func (.func 75) #[] #[]] w fun e w' => e = .returned (.tuple #[]) ∧ ∃ v', MkA N0 big f t nx w' b v' (l ++ preC (Qu.labN (k + 1)) (gcode f 0)) (k + 1) ∧ MkStep w b v w' v' := by
  have hfr := fun W (hW : Mod noF w W) => HF W b v l k hk (M.quiet hW)
  have hla := (Qu.labN_facts (k + 1) (by omega)).2
  have hg := fun W => grace_good h1 h4 (show 0 < 5 by decide) ⟨(Qu.labN (k + 1)).toArray⟩ W (by simpa using hla.2.1) (by simpa [ByteArray.size] using hla.1)
  have hlen : (preC (Qu.labN (k + 1)) (gcode f 0)).length ≤ 70 := by unfold preC; rw [List.length_map]; exact gcode_len h4 (by decide)
  have Hlen := Lib.hid hlen
  simp only at hg
  unfold graceFn at hg
  generalize hlb : (⟨(Qu.labN (k + 1)).toArray⟩ : ByteArray) = lb at *
  generalize preC (Qu.labN (k + 1)) (gcode f 0) = pc at *
  generalize ((f : Nat) : Int) = fi at *
  have c1 := M.c1
  have HM := Lib.hid M
  have Hfr := Lib.hid hfr
  have Hg := Lib.hid hg
  have hfi := fi
  clear M hfr hla hg HF hlb hlen
  go_enter Tryz.func47, Tryz.ntmps47
  go_wp2
  refine wp_region_held_drew (S := fun W => W.cell? ⟨b, 1, none⟩ = some (.int .i64 fi)) (by kernel_rfl) ((Mod.refl noF _).drew.cell c1 (fun e => e)) (fun hHeld => ?_)
  refine wpAnyH_take (i := 0) (oi := ?oP0) (v := ?vP0) ?qP0 (by kernel_rfl) ?fP0 ?gP0 ?pP0 ?uP0 (by assumption) ?rP0
  case qP0 => (rw [List.getElem?_toArray]; rfl)
  case fP0 => kernel_rfl
  case gP0 => kernel_rfl
  case pP0 => exact (fun _ _ _ h => h)
  case uP0 => (refine Or.inl ⟨by rfl, ?_⟩; intro w hSw; (try dsimp only at hSw); go_simp; (try rw [if_neg (by omega)]); try with_reducible rfl)
  try simp only [Act.put, List.setIfInBounds_toArray, List.set_cons_zero, List.set_cons_succ]
  refine wpAnyH_take (i := 1) (oi := ?oP1) (v := ?vP1) ?qP1 (by kernel_rfl) ?fP1 ?gP1 ?pP1 ?uP1 (by assumption) ?rP1
  case qP1 => (rw [List.getElem?_toArray]; rfl)
  case fP1 => kernel_rfl
  case gP1 => kernel_rfl
  case pP1 => exact (fun _ _ _ h => h)
  case uP1 => (refine Or.inl ⟨by rfl, ?_⟩; intro w hSw; (try dsimp only at hSw); go_simp; (try rw [if_neg (by omega)]); try with_reducible rfl)
  try simp only [Act.put, List.setIfInBounds_toArray, List.set_cons_zero, List.set_cons_succ]
  refine wpAnyH_take (i := 2) (oi := ?oP2) (v := ?vP2) ?qP2 (by kernel_rfl) ?fP2 ?gP2 ?pP2 ?uP2 (by assumption) ?rP2
  case qP2 => (rw [List.getElem?_toArray]; rfl)
  case fP2 => kernel_rfl
  case gP2 => kernel_rfl
  case pP2 => exact (fun _ _ _ h => h)
  case uP2 => (refine Or.inl ⟨by rfl, ?_⟩; intro w hSw; (try dsimp only at hSw); go_simp; (try rw [if_neg (by omega)]); try with_reducible rfl)
  try simp only [Act.put, List.setIfInBounds_toArray, List.set_cons_zero, List.set_cons_succ]
  refine wpAnyH_take (i := 3) (oi := ?oP3) (v := ?vP3) ?qP3 (by kernel_rfl) ?fP3 ?gP3 ?pP3 ?uP3 (by assumption) ?rP3
  case qP3 => (rw [List.getElem?_toArray]; rfl)
  case fP3 => kernel_rfl
  case gP3 => kernel_rfl
  case pP3 => exact (fun _ _ _ h => h)
  case uP3 => (refine Or.inl ⟨by rfl, ?_⟩; intro w hSw; (try dsimp only at hSw); go_simp; (try rw [if_neg (by omega)]); try with_reducible rfl)
  try simp only [Act.put, List.setIfInBounds_toArray, List.set_cons_zero, List.set_cons_succ]
  refine wpAnyH_take (i := 4) (oi := ?oP4) (v := ?vP4) ?qP4 (by kernel_rfl) ?fP4 ?gP4 ?pP4 ?uP4 (by assumption) ?rP4
  case qP4 => (rw [List.getElem?_toArray]; rfl)
  case fP4 => kernel_rfl
  case gP4 => kernel_rfl
  case pP4 => exact (fun _ _ _ h => h)
  case uP4 => (refine Or.inl ⟨by rfl, ?_⟩; intro w hSw; (try dsimp only at hSw); go_simp; (try rw [if_neg (by omega)]); try with_reducible rfl)
  try simp only [Act.put, List.setIfInBounds_toArray, List.set_cons_zero, List.set_cons_succ]
  refine wpAnyH_take (i := 5) (oi := ?oP5) (v := ?vP5) ?qP5 (by kernel_rfl) ?fP5 ?gP5 ?pP5 ?uP5 (by assumption) ?rP5
  case qP5 => (rw [List.getElem?_toArray]; rfl)
  case fP5 => kernel_rfl
  case gP5 => kernel_rfl
  case pP5 => exact (fun _ _ _ h => h)
  case uP5 => (refine Or.inl ⟨by rfl, ?_⟩; intro w hSw; (try dsimp only at hSw); go_simp; (try rw [if_neg (by omega)]); try with_reducible rfl)
  try simp only [Act.put, List.setIfInBounds_toArray, List.set_cons_zero, List.set_cons_succ]
  refine wpAnyH_ready (rs := [6]) (by kernel_rfl) (by simp) ?_
  refine AllReadyH.cons rfl (fun K hK => ?_) AllReadyH.nil
  go_simp
  refine (Hfr.out _ (Mod.refl _ _).drew).mono ?_
  rintro e w4 ⟨rfl, hm4, hs4⟩
  have Hm4 := Lib.hid hm4
  have Hs4 := Lib.hid hs4
  refine Shut.out hK _ _ hm4.c1 (fun hS4 => ?_)
  clear hm4 hs4 c1
  try simp only [Act.put, List.setIfInBounds_toArray, List.set_cons_zero, List.set_cons_succ]
  refine wpAnyH_ready (rs := [7]) (by kernel_rfl) (by simp) ?_
  refine AllReadyH.cons rfl (fun K hK => ?_) AllReadyH.nil
  go_simp
  refine (Hg.out _).mono ?_
  rintro e w5 ⟨pv, rfl, hmade⟩
  have hq5 := Mod.below hmade.2.1
  have hM5 := Hm4.out.quiet hq5
  have Hm5 := Lib.hid hM5
  have Hs5 := Lib.hid (Hs4.out.quiet hq5)
  have Hpv := Lib.hid hmade.1
  have Hpn := Lib.hid hmade.2.2
  refine Shut.out hK _ _ hM5.c1 (fun hS5 => ?_)
  clear hM5 hmade hq5
  try simp only [Act.put, List.setIfInBounds_toArray, List.set_cons_zero, List.set_cons_succ]
  refine wpAnyH_take (i := 8) (oi := ?oP8) (v := ?vP8) ?qP8 (by kernel_rfl) ?fP8 ?gP8 ?pP8 ?uP8 (by assumption) ?rP8
  case qP8 => (rw [List.getElem?_toArray]; rfl)
  case fP8 => kernel_rfl
  case gP8 => kernel_rfl
  case pP8 => exact (fun _ _ _ h => h)
  case uP8 => (refine Or.inl ⟨by rfl, ?_⟩; intro w hSw; (try dsimp only at hSw); go_simp; (try rw [if_neg (by omega)]); try with_reducible rfl)
  try simp only [Act.put, List.setIfInBounds_toArray, List.set_cons_zero, List.set_cons_succ]
  refine wpAnyH_take (i := 9) (oi := ?oP9) (v := ?vP9) ?qP9 (by kernel_rfl) ?fP9 ?gP9 ?pP9 ?uP9 (by assumption) ?rP9
  case qP9 => (rw [List.getElem?_toArray]; rfl)
  case fP9 => kernel_rfl
  case gP9 => kernel_rfl
  case pP9 => exact (fun _ _ _ h => h)
  case uP9 => (refine Or.inl ⟨by rfl, ?_⟩; intro w hSw; (try dsimp only at hSw); go_simp; (try rw [if_neg (by omega)]); try with_reducible rfl)
  try simp only [Act.put, List.setIfInBounds_toArray, List.set_cons_zero, List.set_cons_succ]
  refine wpAnyH_take (i := 10) (oi := ?oP10) (v := ?vP10) ?qP10 (by kernel_rfl) ?fP10 ?gP10 ?pP10 ?uP10 (by assumption) ?rP10
  case qP10 => (rw [List.getElem?_toArray]; rfl)
  case fP10 => kernel_rfl
  case gP10 => kernel_rfl
  case pP10 => exact (fun _ _ _ h => h)
  case uP10 => (refine Or.inl ⟨by rfl, ?_⟩; intro w hSw; (try dsimp only at hSw); go_simp; (try rw [if_neg (by omega)]); try with_reducible rfl)
  try simp only [Act.put, List.setIfInBounds_toArray, List.set_cons_zero, List.set_cons_succ]
  refine wpAnyH_take (i := 11) (oi := ?oP11) (v := ?vP11) ?qP11 (by kernel_rfl) ?fP11 ?gP11 ?pP11 ?uP11 (by assumption) ?rP11
  case qP11 => (rw [List.getElem?_toArray]; rfl)
  case fP11 => kernel_rfl
  case gP11 => kernel_rfl
  case pP11 => exact (fun _ _ _ h => h)
  case uP11 => (refine Or.inl ⟨by rfl, ?_⟩; intro w hSw; (try dsimp only at hSw); go_simp; (try rw [if_neg (by omega)]); try with_reducible rfl)
  try simp only [Act.put, List.setIfInBounds_toArray, List.set_cons_zero, List.set_cons_succ]
  refine wpAnyH_take (i := 12) (oi := ?oP12) (v := ?vP12) ?qP12 (by kernel_rfl) ?fP12 ?gP12 ?pP12 ?uP12 (by assumption) ?rP12
  case qP12 => (rw [List.getElem?_toArray]; rfl)
  case fP12 => kernel_rfl
  case gP12 => kernel_rfl
  case pP12 => exact (fun _ _ _ h => h)
  case uP12 => (refine Or.inl ⟨by rfl, ?_⟩; intro w hSw; (try dsimp only at hSw); go_simp; (try rw [if_neg (by omega)]); try with_reducible rfl)
  try simp only [Act.put, List.setIfInBounds_toArray, List.set_cons_zero, List.set_cons_succ]
  refine wpAnyH_done (by kernel_rfl) ?_ _
  clear hS4 hS5 hK hHeld
  have HC := Lib.hid (Chain.start Hm5.out.m.emit)
  go_wp2_with fail
  refine (made_more HC.out (by omega) (by have := Hlen.out; omega) Hpv.out).mono ?_
  rintro e w6 ⟨rfl, C⟩
  have hfin : ∃ v', MkA N0 big fi t nx w6 b v' (l ++ pc) (k + 1) ∧ MkStep w b v w6 v' := by
    obtain ⟨v', M', S'⟩ := Hm5.out.chain hT C
    exact ⟨v', M', (((MkStep.refl w b v).quiet (Mod.refl noF w).drew).trans HM.out.lt Hs5.out).trans HM.out.lt S'⟩
  have Hfin := Lib.hid hfin
  clear hfin C
  go_wp2
  go_end0
  exact ⟨rfl, Hfin.out⟩
set_option maxHeartbeats 8000000 in
theorem part1_ok (HF : FreshH N0 big f t nx K) (hT : big → lowT N0) (h1 : 1 ≤ f) (h4 : f ≤ 4) (M : MkA N0 big f t nx w b v l k) (hk : k < K) (hK : K ≤ 120) (hl : l.length ≤ 100000) :
    Calls Tryz.prog 47 #[.pointer (some ⟨b, 0, none⟩), .func (.func 76) #[] #[]] w fun e w' => e = .returned (.tuple #[]) ∧ ∃ v', MkA N0 big f t nx w' b v' (l ++ preC (Qu.labN (k + 1)) (gcode f 1)) (k + 1) ∧ MkStep w b v w' v' := by
  have hfr := fun W (hW : Mod noF w W) => HF W b v l k hk (M.quiet hW)
  have hla := (Qu.labN_facts (k + 1) (by omega)).2
  have hg := fun W => grace_good h1 h4 (show 1 < 5 by decide) ⟨(Qu.labN (k + 1)).toArray⟩ W (by simpa using hla.2.1) (by simpa [ByteArray.size] using hla.1)
  have hlen : (preC (Qu.labN (k + 1)) (gcode f 1)).length ≤ 70 := by unfold preC; rw [List.length_map]; exact gcode_len h4 (by decide)
  have Hlen := Lib.hid hlen
  simp only at hg
  unfold graceFn at hg
  generalize hlb : (⟨(Qu.labN (k + 1)).toArray⟩ : ByteArray) = lb at *
  generalize preC (Qu.labN (k + 1)) (gcode f 1) = pc at *
  generalize ((f : Nat) : Int) = fi at *
  have c1 := M.c1
  have HM := Lib.hid M
  have Hfr := Lib.hid hfr
  have Hg := Lib.hid hg
  have hfi := fi
  clear M hfr hla hg HF hlb hlen
  go_enter Tryz.func47, Tryz.ntmps47
  go_wp2
  refine wp_region_held_drew (S := fun W => W.cell? ⟨b, 1, none⟩ = some (.int .i64 fi)) (by kernel_rfl) ((Mod.refl noF _).drew.cell c1 (fun e => e)) (fun hHeld => ?_)
  refine wpAnyH_take (i := 0) (oi := ?oP0) (v := ?vP0) ?qP0 (by kernel_rfl) ?fP0 ?gP0 ?pP0 ?uP0 (by assumption) ?rP0
  case qP0 => (rw [List.getElem?_toArray]; rfl)
  case fP0 => kernel_rfl
  case gP0 => kernel_rfl
  case pP0 => exact (fun _ _ _ h => h)
  case uP0 => (refine Or.inl ⟨by rfl, ?_⟩; intro w hSw; (try dsimp only at hSw); go_simp; (try rw [if_neg (by omega)]); try with_reducible rfl)
  try simp only [Act.put, List.setIfInBounds_toArray, List.set_cons_zero, List.set_cons_succ]
  refine wpAnyH_take (i := 1) (oi := ?oP1) (v := ?vP1) ?qP1 (by kernel_rfl) ?fP1 ?gP1 ?pP1 ?uP1 (by assumption) ?rP1
  case qP1 => (rw [List.getElem?_toArray]; rfl)
  case fP1 => kernel_rfl
  case gP1 => kernel_rfl
  case pP1 => exact (fun _ _ _ h => h)
  case uP1 => (refine Or.inl ⟨by rfl, ?_⟩; intro w hSw; (try dsimp only at hSw); go_simp; (try rw [if_neg (by omega)]); try with_reducible rfl)
  try simp only [Act.put, List.setIfInBounds_toArray, List.set_cons_zero, List.set_cons_succ]
  refine wpAnyH_take (i := 2) (oi := ?oP2) (v := ?vP2) ?qP2 (by kernel_rfl) ?fP2 ?gP2 ?pP2 ?uP2 (by assumption) ?rP2
  case qP2 => (rw [List.getElem?_toArray]; rfl)
  case fP2 => kernel_rfl
  case gP2 => kernel_rfl
  case pP2 => exact (fun _ _ _ h => h)
  case uP2 => (refine Or.inl ⟨by rfl, ?_⟩; intro w hSw; (try dsimp only at hSw); go_simp; (try rw [if_neg (by omega)]); try with_reducible rfl)
  try simp only [Act.put, List.setIfInBounds_toArray, List.set_cons_zero, List.set_cons_succ]
  refine wpAnyH_take (i := 3) (oi := ?oP3) (v := ?vP3) ?qP3 (by kernel_rfl) ?fP3 ?gP3 ?pP3 ?uP3 (by assumption) ?rP3
  case qP3 => (rw [List.getElem?_toArray]; rfl)
  case fP3 => kernel_rfl
  case gP3 => kernel_rfl
  case pP3 => exact (fun _ _ _ h => h)
  case uP3 => (refine Or.inl ⟨by rfl, ?_⟩; intro w hSw; (try dsimp only at hSw); go_simp; (try rw [if_neg (by omega)]); try with_reducible rfl)
  try simp only [Act.put, List.setIfInBounds_toArray, List.set_cons_zero, List.set_cons_succ]
  refine wpAnyH_take (i := 4) (oi := ?oP4) (v := ?vP4) ?qP4 (by kernel_rfl) ?fP4 ?gP4 ?pP4 ?uP4 (by assumption) ?rP4
  case qP4 => (rw [List.getElem?_toArray]; rfl)
  case fP4 => kernel_rfl
  case gP4 => kernel_rfl
  case pP4 => exact (fun _ _ _ h => h)
  case uP4 => (refine Or.inl ⟨by rfl, ?_⟩; intro w hSw; (try dsimp only at hSw); go_simp; (try rw [if_neg (by omega)]); try with_reducible rfl)
  try simp only [Act.put, List.setIfInBounds_toArray, List.set_cons_zero, List.set_cons_succ]
  refine wpAnyH_take (i := 5) (oi := ?oP5) (v := ?vP5) ?qP5 (by kernel_rfl) ?fP5 ?gP5 ?pP5 ?uP5 (by assumption) ?rP5
  case qP5 => (rw [List.getElem?_toArray]; rfl)
  case fP5 => kernel_rfl
  case gP5 => kernel_rfl
  case pP5 => exact (fun _ _ _ h => h)
  case uP5 => (refine Or.inl ⟨by rfl, ?_⟩; intro w hSw; (try dsimp only at hSw); go_simp; (try rw [if_neg (by omega)]); try with_reducible rfl)
  try simp only [Act.put, List.setIfInBounds_toArray, List.set_cons_zero, List.set_cons_succ]
  refine wpAnyH_ready (rs := [6]) (by kernel_rfl) (by simp) ?_
  refine AllReadyH.cons rfl (fun K hK => ?_) AllReadyH.nil
  go_simp
  refine (Hfr.out _ (Mod.refl _ _).drew).mono ?_
  rintro e w4 ⟨rfl, hm4, hs4⟩
  have Hm4 := Lib.hid hm4
  have Hs4 := Lib.hid hs4
  refine Shut.out hK _ _ hm4.c1 (fun hS4 => ?_)
  clear hm4 hs4 c1
  try simp only [Act.put, List.setIfInBounds_toArray, List.set_cons_zero, List.set_cons_succ]
  refine wpAnyH_ready (rs := [7]) (by kernel_rfl) (by simp) ?_
  refine AllReadyH.cons rfl (fun K hK => ?_) AllReadyH.nil
  go_simp
  refine (Hg.out _).mono ?_
  rintro e w5 ⟨pv, rfl, hmade⟩
  have hq5 := Mod.below hmade.2.1
  have hM5 := Hm4.out.quiet hq5
  have Hm5 := Lib.hid hM5
  have Hs5 := Lib.hid (Hs4.out.quiet hq5)
  have Hpv := Lib.hid hmade.1
  have Hpn := Lib.hid hmade.2.2
  refine Shut.out hK _ _ hM5.c1 (fun hS5 => ?_)
  clear hM5 hmade hq5
  try simp only [Act.put, List.setIfInBounds_toArray, List.set_cons_zero, List.set_cons_succ]
  refine wpAnyH_take (i := 8) (oi := ?oP8) (v := ?vP8) ?qP8 (by kernel_rfl) ?fP8 ?gP8 ?pP8 ?uP8 (by assumption) ?rP8
  case qP8 => (rw [List.getElem?_toArray]; rfl)
  case fP8 => kernel_rfl
  case gP8 => kernel_rfl
  case pP8 => exact (fun _ _ _ h => h)
  case uP8 => (refine Or.inl ⟨by rfl, ?_⟩; intro w hSw; (try dsimp only at hSw); go_simp; (try rw [if_neg (by omega)]); try with_reducible rfl)
  try simp only [Act.put, List.setIfInBounds_toArray, List.set_cons_zero, List.set_cons_succ]
  refine wpAnyH_take (i := 9) (oi := ?oP9) (v := ?vP9) ?qP9 (by kernel_rfl) ?fP9 ?gP9 ?pP9 ?uP9 (by assumption) ?rP9
  case qP9 => (rw [List.getElem?_toArray]; rfl)
  case fP9 => kernel_rfl
  case gP9 => kernel_rfl
  case pP9 => exact (fun _ _ _ h => h)
  case uP9 => (refine Or.inl ⟨by rfl, ?_⟩; intro w hSw; (try dsimp only at hSw); go_simp; (try rw [if_neg (by omega)]); try with_reducible rfl)
  try simp only [Act.put, List.setIfInBounds_toArray, List.set_cons_zero, List.set_cons_succ]
  refine wpAnyH_take (i := 10) (oi := ?oP10) (v := ?vP10) ?qP10 (by kernel_rfl) ?fP10 ?gP10 ?pP10 ?uP10 (by assumption) ?rP10
  case qP10 => (rw [List.getElem?_toArray]; rfl)
  case fP10 => kernel_rfl
  case gP10 => kernel_rfl
  case pP10 => exact (fun _ _ _ h => h)
  case uP10 => (refine Or.inl ⟨by rfl, ?_⟩; intro w hSw; (try dsimp only at hSw); go_simp; (try rw [if_neg (by omega)]); try with_reducible rfl)
  try simp only [Act.put, List.setIfInBounds_toArray, List.set_cons_zero, List.set_cons_succ]
  refine wpAnyH_take (i := 11) (oi := ?oP11) (v := ?vP11) ?qP11 (by kernel_rfl) ?fP11 ?gP11 ?pP11 ?uP11 (by assumption) ?rP11
  case qP11 => (rw [List.getElem?_toArray]; rfl)
  case fP11 => kernel_rfl
  case gP11 => kernel_rfl
  case pP11 => exact (fun _ _ _ h => h)
  case uP11 => (refine Or.inl ⟨by rfl, ?_⟩; intro w hSw; (try dsimp only at hSw); go_simp; (try rw [if_neg (by omega)]); try with_reducible rfl)
  try simp only [Act.put, List.setIfInBounds_toArray, List.set_cons_zero, List.set_cons_succ]
  refine wpAnyH_take (i := 12) (oi := ?oP12) (v := ?vP12) ?qP12 (by kernel_rfl) ?fP12 ?gP12 ?pP12 ?uP12 (by assumption) ?rP12
  case qP12 => (rw [List.getElem?_toArray]; rfl)
  case fP12 => kernel_rfl
  case gP12 => kernel_rfl
  case pP12 => exact (fun _ _ _ h => h)
  case uP12 => (refine Or.inl ⟨by rfl, ?_⟩; intro w hSw; (try dsimp only at hSw); go_simp; (try rw [if_neg (by omega)]); try with_reducible rfl)
  try simp only [Act.put, List.setIfInBounds_toArray, List.set_cons_zero, List.set_cons_succ]
  refine wpAnyH_done (by kernel_rfl) ?_ _
  clear hS4 hS5 hK hHeld
  have HC := Lib.hid (Chain.start Hm5.out.m.emit)
  go_wp2_with fail
  refine (made_more HC.out (by omega) (by have := Hlen.out; omega) Hpv.out).mono ?_
  rintro e w6 ⟨rfl, C⟩
  have hfin : ∃ v', MkA N0 big fi t nx w6 b v' (l ++ pc) (k + 1) ∧ MkStep w b v w6 v' := by
    obtain ⟨v', M', S'⟩ := Hm5.out.chain hT C
    exact ⟨v', M', (((MkStep.refl w b v).quiet (Mod.refl noF w).drew).trans HM.out.lt Hs5.out).trans HM.out.lt S'⟩
  have Hfin := Lib.hid hfin
  clear hfin C
  go_wp2
  go_end0
  exact ⟨rfl, Hfin.out⟩
set_option maxHeartbeats 8000000 in
theorem part3_ok (HF : FreshH N0 big f t nx K) (hT : big → lowT N0) (h1 : 1 ≤ f) (h4 : f ≤ 4) (M : MkA N0 big f t nx w b v l k) (hk : k < K) (hK : K ≤ 120) (hl : l.length ≤ 100000) :
    Calls Tryz.prog 47 #[.pointer (some ⟨b, 0, none⟩), .func (.func 48) #[] #[]] w fun e w' => e = .returned (.tuple #[]) ∧ ∃ v', MkA N0 big f t nx w' b v' (l ++ preC (Qu.labN (k + 1)) (gcode f 3)) (k + 1) ∧ MkStep w b v w' v' := by
  have hfr := fun W (hW : Mod noF w W) => HF W b v l k hk (M.quiet hW)
  have hla := (Qu.labN_facts (k + 1) (by omega)).2
  have hg := fun W => grace_good h1 h4 (show 3 < 5 by decide) ⟨(Qu.labN (k + 1)).toArray⟩ W (by simpa using hla.2.1) (by simpa [ByteArray.size] using hla.1)
  have hlen : (preC (Qu.labN (k + 1)) (gcode f 3)).length ≤ 70 := by unfold preC; rw [List.length_map]; exact gcode_len h4 (by decide)
  have Hlen := Lib.hid hlen
  simp only at hg
  unfold graceFn at hg
  generalize hlb : (⟨(Qu.labN (k + 1)).toArray⟩ : ByteArray) = lb at *
  generalize preC (Qu.labN (k + 1)) (gcode f 3) = pc at *
  generalize ((f : Nat) : Int) = fi at *
  have c1 := M.c1
  have HM := Lib.hid M
  have Hfr := Lib.hid hfr
  have Hg := Lib.hid hg
  have hfi := fi
  clear M hfr hla hg HF hlb hlen
  go_enter Tryz.func47, Tryz.ntmps47
  go_wp2
  refine wp_region_held_drew (S := fun W => W.cell? ⟨b, 1, none⟩ = some (.int .i64 fi)) (by kernel_rfl) ((Mod.refl noF _).drew.cell c1 (fun e => e)) (fun hHeld => ?_)
  refine wpAnyH_take (i := 0) (oi := ?oP0) (v := ?vP0) ?qP0 (by kernel_rfl) ?fP0 ?gP0 ?pP0 ?uP0 (by assumption) ?rP0
  case qP0 => (rw [List.getElem?_toArray]; rfl)
  case fP0 => kernel_rfl
  case gP0 => kernel_rfl
  case pP0 => exact (fun _ _ _ h => h)
  case uP0 => (refine Or.inl ⟨by rfl, ?_⟩; intro w hSw; (try dsimp only at hSw); go_simp; (try rw [if_neg (by omega)]); try with_reducible rfl)
  try simp only [Act.put, List.setIfInBounds_toArray, List.set_cons_zero, List.set_cons_succ]
  refine wpAnyH_take (i := 1) (oi := ?oP1) (v := ?vP1) ?qP1 (by kernel_rfl) ?fP1 ?gP1 ?pP1 ?uP1 (by assumption) ?rP1
  case qP1 => (rw [List.getElem?_toArray]; rfl)
  case fP1 => kernel_rfl
  case gP1 => kernel_rfl
  case pP1 => exact (fun _ _ _ h => h)
  case uP1 => (refine Or.inl ⟨by rfl, ?_⟩; intro w hSw; (try dsimp only at hSw); go_simp; (try rw [if_neg (by omega)]); try with_reducible rfl)
  try simp only [Act.put, List.setIfInBounds_toArray, List.set_cons_zero, List.set_cons_succ]
  refine wpAnyH_take (i := 2) (oi := ?oP2) (v := ?vP2) ?qP2 (by kernel_rfl) ?fP2 ?gP2 ?pP2 ?uP2 (by assumption) ?rP2
  case qP2 => (rw [List.getElem?_toArray]; rfl)
  case fP2 => kernel_rfl
  case gP2 => kernel_rfl
  case pP2 => exact (fun _ _ _ h => h)
  case uP2 => (refine Or.inl ⟨by rfl, ?_⟩; intro w hSw; (try dsimp only at hSw); go_simp; (try rw [if_neg (by omega)]); try with_reducible rfl)
  try simp only [Act.put, List.setIfInBounds_toArray, List.set_cons_zero, List.set_cons_succ]
  refine wpAnyH_take (i := 3) (oi := ?oP3) (v := ?vP3) ?qP3 (by kernel_rfl) ?fP3 ?gP3 ?pP3 ?uP3 (by assumption) ?rP3
  case qP3 => (rw [List.getElem?_toArray]; rfl)
  case fP3 => kernel_rfl
  case gP3 => kernel_rfl
  case pP3 => exact (fun _ _ _ h => h)
  case uP3 => (refine Or.inl ⟨by rfl, ?_⟩; intro w hSw; (try dsimp only at hSw); go_simp; (try rw [if_neg (by omega)]); try with_reducible rfl)
  try simp only [Act.put, List.setIfInBounds_toArray, List.set_cons_zero, List.set_cons_succ]
  refine wpAnyH_take (i := 4) (oi := ?oP4) (v := ?vP4) ?qP4 (by kernel_rfl) ?fP4 ?gP4 ?pP4 ?uP4 (by assumption) ?rP4
  case qP4 => (rw [List.getElem?_toArray]; rfl)
  case fP4 => kernel_rfl
  case gP4 => kernel_rfl
  case pP4 => exact (fun _ _ _ h => h)
  case uP4 => (refine Or.inl ⟨by rfl, ?_⟩; intro w hSw; (try dsimp only at hSw); go_simp; (try rw [if_neg (by omega)]); try with_reducible rfl)
  try simp only [Act.put, List.setIfInBounds_toArray, List.set_cons_zero, List.set_cons_succ]
  refine wpAnyH_take (i := 5) (oi := ?oP5) (v := ?vP5) ?qP5 (by kernel_rfl) ?fP5 ?gP5 ?pP5 ?uP5 (by assumption) ?rP5
  case qP5 => (rw [List.getElem?_toArray]; rfl)
  case fP5 => kernel_rfl
  case gP5 => kernel_rfl
  case pP5 => exact (fun _ _ _ h => h)
  case uP5 => (refine Or.inl ⟨by rfl, ?_⟩; intro w hSw; (try dsimp only at hSw); go_simp; (try rw [if_neg (by omega)]); try with_reducible rfl)
  try simp only [Act.put, List.setIfInBounds_toArray, List.set_cons_zero, List.set_cons_succ]
  refine wpAnyH_ready (rs := [6]) (by kernel_rfl) (by simp) ?_
  refine AllReadyH.cons rfl (fun K hK => ?_) AllReadyH.nil
  go_simp
  refine (Hfr.out _ (Mod.refl _ _).drew).mono ?_
  rintro e w4 ⟨rfl, hm4, hs4⟩
  have Hm4 := Lib.hid hm4
  have Hs4 := Lib.hid hs4
  refine Shut.out hK _ _ hm4.c1 (fun hS4 => ?_)
  clear hm4 hs4 c1
  try simp only [Act.put, List.setIfInBounds_toArray, List.set_cons_zero, List.set_cons_succ]
  refine wpAnyH_ready (rs := [7]) (by kernel_rfl) (by simp) ?_
  refine AllReadyH.cons rfl (fun K hK => ?_) AllReadyH.nil
  go_simp
  refine (Hg.out _).mono ?_
  rintro e w5 ⟨pv, rfl, hmade⟩
  have hq5 := Mod.below hmade.2.1
  have hM5 := Hm4.out.quiet hq5
  have Hm5 := Lib.hid hM5
  have Hs5 := Lib.hid (Hs4.out.quiet hq5)
  have Hpv := Lib.hid hmade.1
  have Hpn := Lib.hid hmade.2.2
  refine Shut.out hK _ _ hM5.c1 (fun hS5 => ?_)
  clear hM5 hmade hq5
  try simp only [Act.put, List.setIfInBounds_toArray, List.set_cons_zero, List.set_cons_succ]
  refine wpAnyH_take (i := 8) (oi := ?oP8) (v := ?vP8) ?qP8 (by kernel_rfl) ?fP8 ?gP8 ?pP8 ?uP8 (by assumption) ?rP8
  case qP8 => (rw [List.getElem?_toArray]; rfl)
  case fP8 => kernel_rfl
  case gP8 => kernel_rfl
  case pP8 => exact (fun _ _ _ h => h)
  case uP8 => (refine Or.inl ⟨by rfl, ?_⟩; intro w hSw; (try dsimp only at hSw); go_simp; (try rw [if_neg (by omega)]); try with_reducible rfl)
  try simp only [Act.put, List.setIfInBounds_toArray, List.set_cons_zero, List.set_cons_succ]
  refine wpAnyH_take (i := 9) (oi := ?oP9) (v := ?vP9) ?qP9 (by kernel_rfl) ?fP9 ?gP9 ?pP9 ?uP9 (by assumption) ?rP9
  case qP9 => (rw [List.getElem?_toArray]; rfl)
  case fP9 => kernel_rfl
  case gP9 => kernel_rfl
  case pP9 => exact (fun _ _ _ h => h)
  case uP9 => (refine Or.inl ⟨by rfl, ?_⟩; intro w hSw; (try dsimp only at hSw); go_simp; (try rw [if_neg (by omega)]); try with_reducible rfl)
  try simp only [Act.put, List.setIfInBounds_toArray, List.set_cons_zero, List.set_cons_succ]
  refine wpAnyH_take (i := 10) (oi := ?oP10) (v := ?vP10) ?qP10 (by kernel_rfl) ?fP10 ?gP10 ?pP10 ?uP10 (by assumption) ?rP10
  case qP10 => (rw [List.getElem?_toArray]; rfl)
  case fP10 => kernel_rfl
  case gP10 => kernel_rfl
  case pP10 => exact (fun _ _ _ h => h)
  case uP10 => (refine Or.inl ⟨by rfl, ?_⟩; intro w hSw; (try dsimp only at hSw); go_simp; (try rw [if_neg (by omega)]); try with_reducible rfl)
  try simp only [Act.put, List.setIfInBounds_toArray, List.set_cons_zero, List.set_cons_succ]
  refine wpAnyH_take (i := 11) (oi := ?oP11) (v := ?vP11) ?qP11 (by kernel_rfl) ?fP11 ?gP11 ?pP11 ?uP11 (by assumption) ?rP11
  case qP11 => (rw [List.getElem?_toArray]; rfl)
  case fP11 => kernel_rfl
  case gP11 => kernel_rfl
  case pP11 => exact (fun _ _ _ h => h)
  case uP11 => (refine Or.inl ⟨by rfl, ?_⟩; intro w hSw; (try dsimp only at hSw); go_simp; (try rw [if_neg (by omega)]); try with_reducible rfl)
  try simp only [Act.put, List.setIfInBounds_toArray, List.set_cons_zero, List.set_cons_succ]
  refine wpAnyH_take (i := 12) (oi := ?oP12) (v := ?vP12) ?qP12 (by kernel_rfl) ?fP12 ?gP12 ?pP12 ?uP12 (by assumption) ?rP12
  case qP12 => (rw [List.getElem?_toArray]; rfl)
  case fP12 => kernel_rfl
  case gP12 => kernel_rfl
  case pP12 => exact (fun _ _ _ h => h)
  case uP12 => (refine Or.inl ⟨by rfl, ?_⟩; intro w hSw; (try dsimp only at hSw); go_simp; (try rw [if_neg (by omega)]); try with_reducible rfl)
  try simp only [Act.put, List.setIfInBounds_toArray, List.set_cons_zero, List.set_cons_succ]
  refine wpAnyH_done (by kernel_rfl) ?_ _
  clear hS4 hS5 hK hHeld
  have HC := Lib.hid (Chain.start Hm5.out.m.emit)
  go_wp2_with fail
  refine (made_more HC.out (by omega) (by have := Hlen.out; omega) Hpv.out).mono ?_
  rintro e w6 ⟨rfl, C⟩
  have hfin : ∃ v', MkA N0 big fi t nx w6 b v' (l ++ pc) (k + 1) ∧ MkStep w b v w6 v' := by
    obtain ⟨v', M', S'⟩ := Hm5.out.chain hT C
    exact ⟨v', M', (((MkStep.refl w b v).quiet (Mod.refl noF w).drew).trans HM.out.lt Hs5.out).trans HM.out.lt S'⟩
  have Hfin := Lib.hid hfin
  clear hfin C
  go_wp2
  go_end0
  exact ⟨rfl, Hfin.out⟩
set_option maxHeartbeats 8000000 in
theorem part4_ok (HF : FreshH N0 big f t nx K) (hT : big → lowT N0) (h1 : 1 ≤ f) (h4 : f ≤ 4) (M : MkA N0 big f t nx w b v l k) (hk : k < K) (hK : K ≤ 120) (hl : l.length ≤ 100000) :
    Calls Tryz.prog 47 #[.pointer (some ⟨b, 0, none⟩), .func (.func 86) #[] #[]] w fun e w' => e = .returned (.tuple #[]) ∧ ∃ v', MkA N0 big f t nx w' b v' (l ++ preC (Qu.labN (k + 1)) (gcode f 4)) (k + 1) ∧ MkStep w b v w' v' := by
  have hfr := fun W (hW : Mod noF w W) => HF W b v l k hk (M.quiet hW)
  have hla := (Qu.labN_facts (k + 1) (by omega)).2
  have hg := fun W => grace_good h1 h4 (show 4 < 5 by decide) ⟨(Qu.labN (k + 1)).toArray⟩ W (by simpa using hla.2.1) (by simpa [ByteArray.size] using hla.1)
  have hlen : (preC (Qu.labN (k + 1)) (gcode f 4)).length ≤ 70 := by unfold preC; rw [List.length_map]; exact gcode_len h4 (by decide)
  have Hlen := Lib.hid hlen
  simp only at hg
  unfold graceFn at hg
  generalize hlb : (⟨(Qu.labN (k + 1)).toArray⟩ : ByteArray) = lb at *
  generalize preC (Qu.labN (k + 1)) (gcode f 4) = pc at *
  generalize ((f : Nat) : Int) = fi at *
  have c1 := M.c1
  have HM := Lib.hid M
  have Hfr := Lib.hid hfr
  have Hg := Lib.hid hg
  have hfi := fi
  clear M hfr hla hg HF hlb hlen
  go_enter Tryz.func47, Tryz.ntmps47
  go_wp2
  refine wp_region_held_drew (S := fun W => W.cell? ⟨b, 1, none⟩ = some (.int .i64 fi)) (by kernel_rfl) ((Mod.refl noF _).drew.cell c1 (fun e => e)) (fun hHeld => ?_)
  refine wpAnyH_take (i := 0) (oi := ?oP0) (v := ?vP0) ?qP0 (by kernel_rfl) ?fP0 ?gP0 ?pP0 ?uP0 (by assumption) ?rP0
  case qP0 => (rw [List.getElem?_toArray]; rfl)
  case fP0 => kernel_rfl
  case gP0 => kernel_rfl
  case pP0 => exact (fun _ _ _ h => h)
  case uP0 => (refine Or.inl ⟨by rfl, ?_⟩; intro w hSw; (try dsimp only at hSw); go_simp; (try rw [if_neg (by omega)]); try with_reducible rfl)
  try simp only [Act.put, List.setIfInBounds_toArray, List.set_cons_zero, List.set_cons_succ]
  refine wpAnyH_take (i := 1) (oi := ?oP1) (v := ?vP1) ?qP1 (by kernel_rfl) ?fP1 ?gP1 ?pP1 ?uP1 (by assumption) ?rP1
  case qP1 => (rw [List.getElem?_toArray]; rfl)
  case fP1 => kernel_rfl
  case gP1 => kernel_rfl
  case pP1 => exact (fun _ _ _ h => h)
  case uP1 => (refine Or.inl ⟨by rfl, ?_⟩; intro w hSw; (try dsimp only at hSw); go_simp; (try rw [if_neg (by omega)]); try with_reducible rfl)
  try simp only [Act.put, List.setIfInBounds_toArray, List.set_cons_zero, List.set_cons_succ]
  refine wpAnyH_take (i := 2) (oi := ?oP2) (v := ?vP2) ?qP2 (by kernel_rfl) ?fP2 ?gP2 ?pP2 ?uP2 (by assumption) ?rP2
  case qP2 => (rw [List.getElem?_toArray]; rfl)
  case fP2 => kernel_rfl
  case gP2 => kernel_rfl
  case pP2 => exact (fun _ _ _ h => h)
  case uP2 => (refine Or.inl ⟨by rfl, ?_⟩; intro w hSw; (try dsimp only at hSw); go_simp; (try rw [if_neg (by omega)]); try with_reducible rfl)
  try simp only [Act.put, List.setIfInBounds_toArray, List.set_cons_zero, List.set_cons_succ]
  refine wpAnyH_take (i := 3) (oi := ?oP3) (v := ?vP3) ?qP3 (by kernel_rfl) ?fP3 ?gP3 ?pP3 ?uP3 (by assumption) ?rP3
  case qP3 => (rw [List.getElem?_toArray]; rfl)
  case fP3 => kernel_rfl
  case gP3 => kernel_rfl
  case pP3 => exact (fun _ _ _ h => h)
  case uP3 => (refine Or.inl ⟨by rfl, ?_⟩; intro w hSw; (try dsimp only at hSw); go_simp; (try rw [if_neg (by omega)]); try with_reducible rfl)
  try simp only [Act.put, List.setIfInBounds_toArray, List.set_cons_zero, List.set_cons_succ]
  refine wpAnyH_take (i := 4) (oi := ?oP4) (v := ?vP4) ?qP4 (by kernel_rfl) ?fP4 ?gP4 ?pP4 ?uP4 (by assumption) ?rP4
  case qP4 => (rw [List.getElem?_toArray]; rfl)
  case fP4 => kernel_rfl
  case gP4 => kernel_rfl
  case pP4 => exact (fun _ _ _ h => h)
  case uP4 => (refine Or.inl ⟨by rfl, ?_⟩; intro w hSw; (try dsimp only at hSw); go_simp; (try rw [if_neg (by omega)]); try with_reducible rfl)
  try simp only [Act.put, List.setIfInBounds_toArray, List.set_cons_zero, List.set_cons_succ]
  refine wpAnyH_take (i := 5) (oi := ?oP5) (v := ?vP5) ?qP5 (by kernel_rfl) ?fP5 ?gP5 ?pP5 ?uP5 (by assumption) ?rP5
  case qP5 => (rw [List.getElem?_toArray]; rfl)
  case fP5 => kernel_rfl
  case gP5 => kernel_rfl
  case pP5 => exact (fun _ _ _ h => h)
  case uP5 => (refine Or.inl ⟨by rfl, ?_⟩; intro w hSw; (try dsimp only at hSw); go_simp; (try rw [if_neg (by omega)]); try with_reducible rfl)
  try simp only [Act.put, List.setIfInBounds_toArray, List.set_cons_zero, List.set_cons_succ]
  refine wpAnyH_ready (rs := [6]) (by kernel_rfl) (by simp) ?_
  refine AllReadyH.cons rfl (fun K hK => ?_) AllReadyH.nil
  go_simp
  refine (Hfr.out _ (Mod.refl _ _).drew).mono ?_
  rintro e w4 ⟨rfl, hm4, hs4⟩
  have Hm4 := Lib.hid hm4
  have Hs4 := Lib.hid hs4
  refine Shut.out hK _ _ hm4.c1 (fun hS4 => ?_)
  clear hm4 hs4 c1
  try simp only [Act.put, List.setIfInBounds_toArray, List.set_cons_zero, List.set_cons_succ]
  refine wpAnyH_ready (rs := [7]) (by kernel_rfl) (by simp) ?_
  refine AllReadyH.cons rfl (fun K hK => ?_) AllReadyH.nil
  go_simp
  refine (Hg.out _).mono ?_
  rintro e w5 ⟨pv, rfl, hmade⟩
  have hq5 := Mod.below hmade.2.1
  have hM5 := Hm4.out.quiet hq5
  have Hm5 := Lib.hid hM5
  have Hs5 := Lib.hid (Hs4.out.quiet hq5)
  have Hpv := Lib.hid hmade.1
  have Hpn := Lib.hid hmade.2.2
  refine Shut.out hK _ _ hM5.c1 (fun hS5 => ?_)
  clear hM5 hmade hq5
  try simp only [Act.put, List.setIfInBounds_toArray, List.set_cons_zero, List.set_cons_succ]
  refine wpAnyH_take (i := 8) (oi := ?oP8) (v := ?vP8) ?qP8 (by kernel_rfl) ?fP8 ?gP8 ?pP8 ?uP8 (by assumption) ?rP8
  case qP8 => (rw [List.getElem?_toArray]; rfl)
  case fP8 => kernel_rfl
  case gP8 => kernel_rfl
  case pP8 => exact (fun _ _ _ h => h)
  case uP8 => (refine Or.inl ⟨by rfl, ?_⟩; intro w hSw; (try dsimp only at hSw); go_simp; (try rw [if_neg (by omega)]); try with_reducible rfl)
  try simp only [Act.put, List.setIfInBounds_toArray, List.set_cons_zero, List.set_cons_succ]
  refine wpAnyH_take (i := 9) (oi := ?oP9) (v := ?vP9) ?qP9 (by kernel_rfl) ?fP9 ?gP9 ?pP9 ?uP9 (by assumption) ?rP9
  case qP9 => (rw [List.getElem?_toArray]; rfl)
  case fP9 => kernel_rfl
  case gP9 => kernel_rfl
  case pP9 => exact (fun _ _ _ h => h)
  case uP9 => (refine Or.inl ⟨by rfl, ?_⟩; intro w hSw; (try dsimp only at hSw); go_simp; (try rw [if_neg (by omega)]); try with_reducible rfl)
  try simp only [Act.put, List.setIfInBounds_toArray, List.set_cons_zero, List.set_cons_succ]
  refine wpAnyH_take (i := 10) (oi := ?oP10) (v := ?vP10) ?qP10 (by kernel_rfl) ?fP10 ?gP10 ?pP10 ?uP10 (by assumption) ?rP10
  case qP10 => (rw [List.getElem?_toArray]; rfl)
  case fP10 => kernel_rfl
  case gP10 => kernel_rfl
  case pP10 => exact (fun _ _ _ h => h)
  case uP10 => (refine Or.inl ⟨by rfl, ?_⟩; intro w hSw; (try dsimp only at hSw); go_simp; (try rw [if_neg (by omega)]); try with_reducible rfl)
  try simp only [Act.put, List.setIfInBounds_toArray, List.set_cons_zero, List.set_cons_succ]
  refine wpAnyH_take (i := 11) (oi := ?oP11) (v := ?vP11) ?qP11 (by kernel_rfl) ?fP11 ?gP11 ?pP11 ?uP11 (by assumption) ?rP11
  case qP11 => (rw [List.getElem?_toArray]; rfl)
  case fP11 => kernel_rfl
  case gP11 => kernel_rfl
  case pP11 => exact (fun _ _ _ h => h)
  case uP11 => (refine Or.inl ⟨by rfl, ?_⟩; intro w hSw; (try dsimp only at hSw); go_simp; (try rw [if_neg (by omega)]); try with_reducible rfl)
  try simp only [Act.put, List.setIfInBounds_toArray, List.set_cons_zero, List.set_cons_succ]
  refine wpAnyH_take (i := 12) (oi := ?oP12) (v := ?vP12) ?qP12 (by kernel_rfl) ?fP12 ?gP12 ?pP12 ?uP12 (by assumption) ?rP12
  case qP12 => (rw [List.getElem?_toArray]; rfl)
  case fP12 => kernel_rfl
  case gP12 => kernel_rfl
  case pP12 => exact (fun _ _ _ h => h)
  case uP12 => (refine Or.inl ⟨by rfl, ?_⟩; intro w hSw; (try dsimp only at hSw); go_simp; (try rw [if_neg (by omega)]); try with_reducible rfl)
  try simp only [Act.put, List.setIfInBounds_toArray, List.set_cons_zero, List.set_cons_succ]
  refine wpAnyH_done (by kernel_rfl) ?_ _
  clear hS4 hS5 hK hHeld
  have HC := Lib.hid (Chain.start Hm5.out.m.emit)
  go_wp2_with fail
  refine (made_more HC.out (by omega) (by have := Hlen.out; omega) Hpv.out).mono ?_
  rintro e w6 ⟨rfl, C⟩
  have hfin : ∃ v', MkA N0 big fi t nx w6 b v' (l ++ pc) (k + 1) ∧ MkStep w b v w6 v' := by
    obtain ⟨v', M', S'⟩ := Hm5.out.chain hT C
    exact ⟨v', M', (((MkStep.refl w b v).quiet (Mod.refl noF w).drew).trans HM.out.lt Hs5.out).trans HM.out.lt S'⟩
  have Hfin := Lib.hid hfin
  clear hfin C
  go_wp2
  go_end0
  exact ⟨rfl, Hfin.out⟩
end Go.Proofs.YtppihkneeolomaaGreatDoor
end
/- Clients' and stacks' code: blocks. -/
section
namespace Qc
open Qs Qu Go.Proofs.YtppihkneeolomaaGreatDoor
def laterBlk (p : List UInt8) (tn : Nat) (nx : Int) : List Instr := [⟨14, 3, 0, 0, p⟩, ⟨6, 2, 5, ((1 + tn / 4 : Nat) : Int), []⟩, ⟨6, 0, 2, ((tn % 4 : Nat) : Int), []⟩, ⟨7, 3, 0, nx, []⟩, ⟨7, 2, 3, ((tn % 4 : Nat) : Int), []⟩, ⟨0, 3, 0, 0, []⟩, ⟨17, 0, 0, 0, p⟩]
def flushTail (p q : List UInt8) (tn : Nat) (nx : Int) : List Instr := [⟨6, 2, 5, ((1 + tn / 4 : Nat) : Int), []⟩, ⟨17, 0, 0, 0, p⟩, ⟨6, 0, 2, ((tn % 4 : Nat) : Int), []⟩, ⟨14, 0, 0, 0, q⟩, ⟨6, 1, 0, nx, []⟩, ⟨7, 2, 1, ((tn % 4 : Nat) : Int), []⟩, ⟨11, 0, 0, 0, []⟩, ⟨16, 0, 0, 0, p⟩, ⟨17, 0, 0, 0, q⟩]
def part (f k j : Nat) : List Instr := preC (labN (k + 1)) (gcode f j)
def flushBlk (f k tn : Nat) (nx : Int) : List Instr := part f k 4 ++ flushTail (labN (k + 2)) (labN (k + 3)) tn nx
end Qc
end
