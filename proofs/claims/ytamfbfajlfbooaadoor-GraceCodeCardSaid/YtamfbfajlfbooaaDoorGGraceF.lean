/- package grace: flavours; begin. -/
import Derived.Test.YtamfbfajlfbooaaDoorGGraceB
import Derived.Test.YtamfbfajlfbooaaDoorGSpinBad
set_option linter.unusedVariables false
set_option linter.unusedSimpArgs false
set_option linter.unusedSectionVars false
namespace Go.Proofs.YtamfbfajlfbooaaDoor
open Go.RowKit Qs Qh
variable {w0 w w1 : World} {b o : Nat} {v0 : Value} {l : List Instr} {br s : ByteArray} {fe jo co : Bool} {u : Value} {c : Nat}
theorem size_plus2 (s : ByteArray) (a b : UInt8) (hs : s.size ≤ 4) : (s ++ ⟨[a, b].toArray⟩ : ByteArray).size ≤ 100 := by
  rw [ByteArray.size_append]
  have : (⟨[a, b].toArray⟩ : ByteArray).size = 2 := rfl
  omega
theorem flavours1 (w : World) : Calls Tryd.prog 124 #[.int .i64 1] w fun e w' => e = .returned (.tuple #[.agg #[.string ⟨#[102, 101, 110, 99, 101]⟩, .bool true, .bool false, .bool false], .bool true]) ∧ Mod noF w w' := by
  go_enter Tryd.func124, Tryd.ntmps124
  go_wp2
  refine bodyPost_ret (v := .tuple #[.agg #[.string ⟨#[102, 101, 110, 99, 101]⟩, .bool true, .bool false, .bool false], .bool true]) (by simp [results, Tryd.results124, go_sem]) rfl ⟨rfl, ?_⟩
  repeat (first | exact Mod.refl _ _ | refine Mod.drew ?_ | refine Mod.drewN ?_ _ | refine Mod.alloc ?_ _ | refine Mod.setCell ?_ (fun h => absurd h (by simp)) _)
theorem flavours2 (w : World) : Calls Tryd.prog 124 #[.int .i64 2] w fun e w' => e = .returned (.tuple #[.agg #[.string ⟨#[102, 111, 114, 99, 101]⟩, .bool false, .bool false, .bool false], .bool true]) ∧ Mod noF w w' := by
  go_enter Tryd.func124, Tryd.ntmps124
  go_wp2
  refine bodyPost_ret (v := .tuple #[.agg #[.string ⟨#[102, 111, 114, 99, 101]⟩, .bool false, .bool false, .bool false], .bool true]) (by simp [results, Tryd.results124, go_sem]) rfl ⟨rfl, ?_⟩
  repeat (first | exact Mod.refl _ _ | refine Mod.drew ?_ | refine Mod.drewN ?_ _ | refine Mod.alloc ?_ _ | refine Mod.setCell ?_ (fun h => absurd h (by simp)) _)
theorem flavours3 (w : World) : Calls Tryd.prog 124 #[.int .i64 3] w fun e w' => e = .returned (.tuple #[.agg #[.string ⟨#[102, 101, 110, 99, 101]⟩, .bool false, .bool false, .bool true], .bool true]) ∧ Mod noF w w' := by
  go_enter Tryd.func124, Tryd.ntmps124
  go_wp2
  refine bodyPost_ret (v := .tuple #[.agg #[.string ⟨#[102, 101, 110, 99, 101]⟩, .bool false, .bool false, .bool true], .bool true]) (by simp [results, Tryd.results124, go_sem]) rfl ⟨rfl, ?_⟩
  repeat (first | exact Mod.refl _ _ | refine Mod.drew ?_ | refine Mod.drewN ?_ _ | refine Mod.alloc ?_ _ | refine Mod.setCell ?_ (fun h => absurd h (by simp)) _)
theorem flavours4 (w : World) : Calls Tryd.prog 124 #[.int .i64 4] w fun e w' => e = .returned (.tuple #[.agg #[.string ⟨#[102, 101, 110, 99, 101]⟩, .bool true, .bool true, .bool false], .bool true]) ∧ Mod noF w w' := by
  go_enter Tryd.func124, Tryd.ntmps124
  go_wp2
  refine bodyPost_ret (v := .tuple #[.agg #[.string ⟨#[102, 101, 110, 99, 101]⟩, .bool true, .bool true, .bool false], .bool true]) (by simp [results, Tryd.results124, go_sem]) rfl ⟨rfl, ?_⟩
  repeat (first | exact Mod.refl _ _ | refine Mod.drew ?_ | refine Mod.drewN ?_ _ | refine Mod.alloc ?_ _ | refine Mod.setCell ?_ (fun h => absurd h (by simp)) _)
theorem flavours_bad (f : Int) (hf : ¬ (1 ≤ f ∧ f ≤ 4)) (w : World) : Calls Tryd.prog 124 #[.int .i64 f] w fun e w' => e = .returned (.tuple #[.agg #[.string ⟨#[]⟩, .bool false, .bool false, .bool false], .bool false]) ∧ Mod noF w w' := by
  have d1 : (f == 1) = false := by rw [beq_eq_false_iff_ne]; omega
  have d2 : (f == 2) = false := by rw [beq_eq_false_iff_ne]; omega
  have d3 : (f == 3) = false := by rw [beq_eq_false_iff_ne]; omega
  have d4 : (f == 4) = false := by rw [beq_eq_false_iff_ne]; omega
  clear hf
  go_enter Tryd.func124, Tryd.ntmps124
  go_wp2
  refine bodyPost_ret (v := .tuple #[.agg #[.string ⟨#[]⟩, .bool false, .bool false, .bool false], .bool false]) (by simp [results, Tryd.results124, go_sem]) rfl ⟨rfl, ?_⟩
  repeat (first | exact Mod.refl _ _ | refine Mod.drew ?_ | refine Mod.drewN ?_ _ | refine Mod.alloc ?_ _ | refine Mod.setCell ?_ (fun h => absurd h (by simp)) _)
set_option maxHeartbeats 2000000 in
theorem begin1_ok (s : ByteArray) (w : World) (hn : nameB s.data.toList = true) (hs : s.size ≤ 4) :
    Calls Tryd.prog 138 #[.int .i64 1, .string s] w fun e w' => ∃ b, e = .returned (.tuple #[.pointer (some ⟨b, 0, none⟩), .nilIface]) ∧ Mod noF w w' ∧ w.heap.size ≤ b ∧ Emit insT w' b 4 (.slice none 0 0) [] ∧ MkAt w' b (opStr 12) true false false s := by
  have hsz : s.size ≤ maxLen := by unfold maxLen; omega
  have hm : (s.size : Int) ≤ 4 := by omega
  have Hn := Lib.hid hn
  clear hn
  go_enter Tryd.func138, Tryd.ntmps138
  go_wp2_with fail
  refine (flavours1 w).mono ?_
  rintro e w1 ⟨rfl, hm1⟩
  have Hm1 := Lib.hid hm1
  clear hm1
  go_wp2_with (go_at_call 101; refine (prefix_ok s 4 _ hsz Hn.out hm).mono ?_; rintro e w' ⟨rfl, rfl⟩)
  go_ret2
  have hs1 := Hm1.out.size
  exact ⟨w1.heap.size + 1, by simp, (Hm1.out.alloc _).alloc _, by omega, ⟨by simp, by simp, InsRow.nil _ _, by simp [Value.ownBlock], by simp⟩, ⟨by simp; rfl, by simp, by simp, by simp, by simp⟩⟩
theorem begin_name1 (s : ByteArray) (w : World) (a : Nat → Addr) (E : ErrsAt w a) (hs : s.size ≤ maxLen) (h : nameB s.data.toList = false ∨ (4 : Int) < (s.size : Int)) :
    Calls Tryd.prog 138 #[.int .i64 1, .string s] w fun e w' => e = .returned (.tuple #[.pointer none, errV a 3]) ∧ Mod noF w w' := by
  have hp := fun (w1 : World) (hm : Mod noF w w1) => prefix_bad s 4 w1 a (E.keep hm) hs h
  unfold errV at hp ⊢
  have Hp := Lib.hid hp
  clear h E hp
  go_enter Tryd.func138, Tryd.ntmps138
  go_wp2_with fail
  refine (flavours1 w).mono ?_
  rintro e w1 ⟨rfl, hm1⟩
  have Hm1 := Lib.hid hm1
  clear hm1
  go_wp2_with (go_at_call 101; refine (Hp.out _ (Hm1.out.alloc _)).mono ?_; rintro e w' ⟨rfl, rfl⟩)
  go_ret2
  exact ⟨rfl, Hm1.out.alloc _⟩
set_option maxHeartbeats 2000000 in
theorem begin2_ok (s : ByteArray) (w : World) (hn : nameB s.data.toList = true) (hs : s.size ≤ 4) :
    Calls Tryd.prog 138 #[.int .i64 2, .string s] w fun e w' => ∃ b, e = .returned (.tuple #[.pointer (some ⟨b, 0, none⟩), .nilIface]) ∧ Mod noF w w' ∧ w.heap.size ≤ b ∧ Emit insT w' b 4 (.slice none 0 0) [] ∧ MkAt w' b (opStr 13) false false false s := by
  have hsz : s.size ≤ maxLen := by unfold maxLen; omega
  have hm : (s.size : Int) ≤ 4 := by omega
  have Hn := Lib.hid hn
  clear hn
  go_enter Tryd.func138, Tryd.ntmps138
  go_wp2_with fail
  refine (flavours2 w).mono ?_
  rintro e w1 ⟨rfl, hm1⟩
  have Hm1 := Lib.hid hm1
  clear hm1
  go_wp2_with (go_at_call 101; refine (prefix_ok s 4 _ hsz Hn.out hm).mono ?_; rintro e w' ⟨rfl, rfl⟩)
  go_ret2
  have hs1 := Hm1.out.size
  exact ⟨w1.heap.size + 1, by simp, (Hm1.out.alloc _).alloc _, by omega, ⟨by simp, by simp, InsRow.nil _ _, by simp [Value.ownBlock], by simp⟩, ⟨by simp; rfl, by simp, by simp, by simp, by simp⟩⟩
theorem begin_name2 (s : ByteArray) (w : World) (a : Nat → Addr) (E : ErrsAt w a) (hs : s.size ≤ maxLen) (h : nameB s.data.toList = false ∨ (4 : Int) < (s.size : Int)) :
    Calls Tryd.prog 138 #[.int .i64 2, .string s] w fun e w' => e = .returned (.tuple #[.pointer none, errV a 3]) ∧ Mod noF w w' := by
  have hp := fun (w1 : World) (hm : Mod noF w w1) => prefix_bad s 4 w1 a (E.keep hm) hs h
  unfold errV at hp ⊢
  have Hp := Lib.hid hp
  clear h E hp
  go_enter Tryd.func138, Tryd.ntmps138
  go_wp2_with fail
  refine (flavours2 w).mono ?_
  rintro e w1 ⟨rfl, hm1⟩
  have Hm1 := Lib.hid hm1
  clear hm1
  go_wp2_with (go_at_call 101; refine (Hp.out _ (Hm1.out.alloc _)).mono ?_; rintro e w' ⟨rfl, rfl⟩)
  go_ret2
  exact ⟨rfl, Hm1.out.alloc _⟩
set_option maxHeartbeats 2000000 in
theorem begin3_ok (s : ByteArray) (w : World) (hn : nameB s.data.toList = true) (hs : s.size ≤ 4) :
    Calls Tryd.prog 138 #[.int .i64 3, .string s] w fun e w' => ∃ b, e = .returned (.tuple #[.pointer (some ⟨b, 0, none⟩), .nilIface]) ∧ Mod noF w w' ∧ w.heap.size ≤ b ∧ Emit insT w' b 4 (.slice none 0 0) [] ∧ MkAt w' b (opStr 12) false false true s := by
  have hsz : s.size ≤ maxLen := by unfold maxLen; omega
  have hm : (s.size : Int) ≤ 4 := by omega
  have Hn := Lib.hid hn
  clear hn
  go_enter Tryd.func138, Tryd.ntmps138
  go_wp2_with fail
  refine (flavours3 w).mono ?_
  rintro e w1 ⟨rfl, hm1⟩
  have Hm1 := Lib.hid hm1
  clear hm1
  go_wp2_with (go_at_call 101; refine (prefix_ok s 4 _ hsz Hn.out hm).mono ?_; rintro e w' ⟨rfl, rfl⟩)
  go_ret2
  have hs1 := Hm1.out.size
  exact ⟨w1.heap.size + 1, by simp, (Hm1.out.alloc _).alloc _, by omega, ⟨by simp, by simp, InsRow.nil _ _, by simp [Value.ownBlock], by simp⟩, ⟨by simp; rfl, by simp, by simp, by simp, by simp⟩⟩
theorem begin_name3 (s : ByteArray) (w : World) (a : Nat → Addr) (E : ErrsAt w a) (hs : s.size ≤ maxLen) (h : nameB s.data.toList = false ∨ (4 : Int) < (s.size : Int)) :
    Calls Tryd.prog 138 #[.int .i64 3, .string s] w fun e w' => e = .returned (.tuple #[.pointer none, errV a 3]) ∧ Mod noF w w' := by
  have hp := fun (w1 : World) (hm : Mod noF w w1) => prefix_bad s 4 w1 a (E.keep hm) hs h
  unfold errV at hp ⊢
  have Hp := Lib.hid hp
  clear h E hp
  go_enter Tryd.func138, Tryd.ntmps138
  go_wp2_with fail
  refine (flavours3 w).mono ?_
  rintro e w1 ⟨rfl, hm1⟩
  have Hm1 := Lib.hid hm1
  clear hm1
  go_wp2_with (go_at_call 101; refine (Hp.out _ (Hm1.out.alloc _)).mono ?_; rintro e w' ⟨rfl, rfl⟩)
  go_ret2
  exact ⟨rfl, Hm1.out.alloc _⟩
set_option maxHeartbeats 2000000 in
theorem begin4_ok (s : ByteArray) (w : World) (hn : nameB s.data.toList = true) (hs : s.size ≤ 4) :
    Calls Tryd.prog 138 #[.int .i64 4, .string s] w fun e w' => ∃ b, e = .returned (.tuple #[.pointer (some ⟨b, 0, none⟩), .nilIface]) ∧ Mod noF w w' ∧ w.heap.size ≤ b ∧ Emit insT w' b 4 (.slice none 0 0) [] ∧ MkAt w' b (opStr 12) true true false s := by
  have hsz : s.size ≤ maxLen := by unfold maxLen; omega
  have hm : (s.size : Int) ≤ 4 := by omega
  have Hn := Lib.hid hn
  clear hn
  go_enter Tryd.func138, Tryd.ntmps138
  go_wp2_with fail
  refine (flavours4 w).mono ?_
  rintro e w1 ⟨rfl, hm1⟩
  have Hm1 := Lib.hid hm1
  clear hm1
  go_wp2_with (go_at_call 101; refine (prefix_ok s 4 _ hsz Hn.out hm).mono ?_; rintro e w' ⟨rfl, rfl⟩)
  go_ret2
  have hs1 := Hm1.out.size
  exact ⟨w1.heap.size + 1, by simp, (Hm1.out.alloc _).alloc _, by omega, ⟨by simp, by simp, InsRow.nil _ _, by simp [Value.ownBlock], by simp⟩, ⟨by simp; rfl, by simp, by simp, by simp, by simp⟩⟩
theorem begin_name4 (s : ByteArray) (w : World) (a : Nat → Addr) (E : ErrsAt w a) (hs : s.size ≤ maxLen) (h : nameB s.data.toList = false ∨ (4 : Int) < (s.size : Int)) :
    Calls Tryd.prog 138 #[.int .i64 4, .string s] w fun e w' => e = .returned (.tuple #[.pointer none, errV a 3]) ∧ Mod noF w w' := by
  have hp := fun (w1 : World) (hm : Mod noF w w1) => prefix_bad s 4 w1 a (E.keep hm) hs h
  unfold errV at hp ⊢
  have Hp := Lib.hid hp
  clear h E hp
  go_enter Tryd.func138, Tryd.ntmps138
  go_wp2_with fail
  refine (flavours4 w).mono ?_
  rintro e w1 ⟨rfl, hm1⟩
  have Hm1 := Lib.hid hm1
  clear hm1
  go_wp2_with (go_at_call 101; refine (Hp.out _ (Hm1.out.alloc _)).mono ?_; rintro e w' ⟨rfl, rfl⟩)
  go_ret2
  exact ⟨rfl, Hm1.out.alloc _⟩
theorem begin_bound (f : Int) (hf : ¬ (1 ≤ f ∧ f ≤ 4)) (s : ByteArray) (w : World) (a : Nat → Addr) (E : ErrsAt w a) :
    Calls Tryd.prog 138 #[.int .i64 f, .string s] w fun e w' => e = .returned (.tuple #[.pointer none, errV a 1]) ∧ Mod noF w w' := by
  have hfl := flavours_bad f hf
  have hev := fun (w1 : World) (h : Mod noF w w1) => (E.keep h).var 1 (by omega)
  unfold errV at hev ⊢
  have Hev := Lib.hid hev
  clear hf E hev
  go_enter Tryd.func138, Tryd.ntmps138
  go_wp2_with fail
  refine (hfl w).mono ?_
  rintro e w1 ⟨rfl, hm1⟩
  have hv := Hev.out _ (hm1.alloc (.cells #[.string ⟨#[]⟩, .bool false, .bool false, .bool false] 190))
  have Hm1 := Lib.hid hm1
  clear hm1
  go_wp2
  go_region
  go_wp2
  go_ret2
  exact ⟨rfl, (Hm1.out.alloc _).drew⟩
end Go.Proofs.YtamfbfajlfbooaaDoor
