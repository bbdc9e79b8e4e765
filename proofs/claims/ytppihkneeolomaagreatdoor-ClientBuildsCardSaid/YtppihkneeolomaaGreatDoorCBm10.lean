/- Texts that belong together, joined. -/
import Derived.Test.YtppihkneeolomaaGreatDoorCBm9
import Derived.Test.YtppihkneeolomaaGreatDoorCBm8
import Derived.Test.YtppihkneeolomaaGreatDoorCBm6
import Derived.Test.YtppihkneeolomaaGreatDoorCBm1
set_option linter.unusedVariables false
set_option linter.unusedSimpArgs false
set_option linter.unusedSectionVars false
/- package client: a thread's state and an op: every way. -/
section
namespace Go.Proofs.YtppihkneeolomaaGreatDoor
open Go.RowKit Qs Qh
/-- A thread's state in memory. -/
def StAt (w : World) (b : Nat) (s : CSt) : Prop := w.heap[b]? = some (.cells #[.int .i64 (s.d : Int), .bool s.r, .bool s.w, .bool s.u] 154 (0, 0))
def SopPost (a : Nat → Addr) (s : CSt) (x : ROp) (b : Nat) (w : World) (e : Ending) (w' : World) : Prop :=
  ∃ ev, e = .returned ev ∧ ((cfOp s x).1 = 0 → ev = .nilIface ∧ StAt w' b (cfOp s x).2) ∧ ((cfOp s x).1 ≠ 0 → ∃ i : Nat, i < 9 ∧ (cfOp s x).1 = (i : Int) + 1 ∧ ev = errV a i) ∧ Mod (fun k => k = b) w w'
variable {a : Nat → Addr} {w w' : World} {b d : Nat} {r wt u : Bool} {n : Int} {s s' : CSt} {x : ROp}
theorem sop_good (hcf : cfOp s x = (0, s')) (hS : StAt w' b s') (hM : Mod (fun k => k = b) w w') : SopPost a s x b w (.returned .nilIface) w' :=
  ⟨_, rfl, fun _ => ⟨rfl, by rw [hcf]; exact hS⟩, fun h => absurd (by rw [hcf]) h, hM⟩
theorem sop_bad {c : Int} (i : Nat) (hcf : cfOp s x = (c, s')) (hi : i < 9) (hc : c = (i : Int) + 1) (hM : Mod (fun k => k = b) w w') : SopPost a s x b w (.returned (errV a i)) w' :=
  ⟨_, rfl, fun h => by rw [hcf] at h; simp only at h; omega, fun _ => ⟨i, hi, by rw [hcf]; exact hc, rfl⟩, hM⟩
theorem sop_enter_n (E : ErrsAt w a) (HK : KindsW w) (hn : n ≠ 0) (hS : StAt w b ⟨d, r, wt, u⟩) :
    Calls Tryz.prog 90 #[.pointer (some ⟨b, 0, none⟩), .agg #[.string ⟨#[101, 110, 116, 101, 114]⟩, .int .i64 n]] w (SopPost a ⟨d, r, wt, u⟩ (kEnter, n) b w) := by
  have hq := (Mod.refl noF w).alloc (.cells #[.string ⟨#[101, 110, 116, 101, 114]⟩, .int .i64 n] 88)
  have hcf : cfOp ⟨d, r, wt, u⟩ (kEnter, n) = (3, ⟨d, r, wt, u⟩) := by
    unfold cfOp
    have hm : memK kindsC ⟨#[101, 110, 116, 101, 114]⟩ = true := by decide +kernel
    simp [hm, kEnter, kLeave, kRest, kWait, kRead, kPut, kDrop, kLater, kFlush, hn]
  have hS1 := hq.heap hS (fun e => e)
  have h0 := cell_of_heap hS1 0
  have h1 := cell_of_heap hS1 1
  have h2 := cell_of_heap hS1 2
  have h3 := cell_of_heap hS1 3
  have f0 := free_of_heap hS1 0
  have f1 := free_of_heap hS1 1
  have f2 := free_of_heap hS1 2
  have f3 := free_of_heap hS1 3
  replace h0 : (w.alloc (.cells #[.string ⟨#[101, 110, 116, 101, 114]⟩, .int .i64 n] 88)).cell? ⟨b, 0, none⟩ = some (.int .i64 ((d : Nat) : Int)) := h0
  replace h1 : (w.alloc (.cells #[.string ⟨#[101, 110, 116, 101, 114]⟩, .int .i64 n] 88)).cell? ⟨b, 1, none⟩ = some (.bool r) := h1
  replace h2 : (w.alloc (.cells #[.string ⟨#[101, 110, 116, 101, 114]⟩, .int .i64 n] 88)).cell? ⟨b, 2, none⟩ = some (.bool wt) := h2
  replace h3 : (w.alloc (.cells #[.string ⟨#[101, 110, 116, 101, 114]⟩, .int .i64 n] 88)).cell? ⟨b, 3, none⟩ = some (.bool u) := h3
  have E1 := E.keep hq
  obtain ⟨gk, off, cap, q0, qx⟩ := HK.keep hq
  have hcall := containsK2 (w.alloc (.cells #[.string ⟨#[101, 110, 116, 101, 114]⟩, .int .i64 n] 88)) gk off cap kindsC kEnter qx (by decide)
  rw [show memK kindsC kEnter = true by decide +kernel] at hcall
  have hl9 : kindsC.length = 9 := rfl
  rw [hl9] at hcall
  have v1 := E1.v1
  have v2 := E1.v2
  have v4 := E1.v4
  have v7 := E1.v7
  have e0 : ((⟨#[101, 110, 116, 101, 114]⟩ : ByteArray).toList == (⟨#[101, 110, 116, 101, 114]⟩ : ByteArray).toList) = true := by simp
  have e1 : ((⟨#[101, 110, 116, 101, 114]⟩ : ByteArray).toList == (⟨#[108, 101, 97, 118, 101]⟩ : ByteArray).toList) = false := by
    rw [ByteArray.toList_eq, ByteArray.toList_eq]; rfl
  have e2 : ((⟨#[101, 110, 116, 101, 114]⟩ : ByteArray).toList == (⟨#[114, 101, 115, 116]⟩ : ByteArray).toList) = false := by
    rw [ByteArray.toList_eq, ByteArray.toList_eq]; rfl
  have e3 : ((⟨#[101, 110, 116, 101, 114]⟩ : ByteArray).toList == (⟨#[119, 97, 105, 116]⟩ : ByteArray).toList) = false := by
    rw [ByteArray.toList_eq, ByteArray.toList_eq]; rfl
  have e4 : ((⟨#[101, 110, 116, 101, 114]⟩ : ByteArray).toList == (⟨#[102, 108, 117, 115, 104]⟩ : ByteArray).toList) = false := by
    rw [ByteArray.toList_eq, ByteArray.toList_eq]; rfl
  have e5 : ((⟨#[101, 110, 116, 101, 114]⟩ : ByteArray).toList == (⟨#[114, 101, 97, 100]⟩ : ByteArray).toList) = false := by
    rw [ByteArray.toList_eq, ByteArray.toList_eq]; rfl
  have e6 : ((⟨#[101, 110, 116, 101, 114]⟩ : ByteArray).toList == (⟨#[112, 117, 116]⟩ : ByteArray).toList) = false := by
    rw [ByteArray.toList_eq, ByteArray.toList_eq]; rfl
  have e7 : ((⟨#[101, 110, 116, 101, 114]⟩ : ByteArray).toList == (⟨#[100, 114, 111, 112]⟩ : ByteArray).toList) = false := by
    rw [ByteArray.toList_eq, ByteArray.toList_eq]; rfl
  have e8 : ((⟨#[101, 110, 116, 101, 114]⟩ : ByteArray).toList == (⟨#[108, 97, 116, 101, 114]⟩ : ByteArray).toList) = false := by
    rw [ByteArray.toList_eq, ByteArray.toList_eq]; rfl
  have n1 : (n == 0) = false := by simpa using hn
  have n2 : decide (n = 0) = false := by simpa using hn
  have HS1 := Lib.hid hS1
  have Hq := Lib.hid hq
  have Hcall := Lib.hid hcall
  have Hcf := Lib.hid hcf
  have hbz : w.heap.size ≠ b := by have := lt_of_block hS; omega
  clear E HK hS hq hcf hS1 E1 qx hcall hl9
  go_enter Tryz.func90, Tryz.ntmps90
  go_wp2_with fail
  refine Hcall.out.mono ?_
  rintro e w2 ⟨rfl, rfl⟩
  go_wp2
  go_ret
  exact sop_bad 2 Hcf.out (by omega) rfl Hq.out.any
theorem sop_leave_n (E : ErrsAt w a) (HK : KindsW w) (hn : n ≠ 0) (hS : StAt w b ⟨d, r, wt, u⟩) :
    Calls Tryz.prog 90 #[.pointer (some ⟨b, 0, none⟩), .agg #[.string ⟨#[108, 101, 97, 118, 101]⟩, .int .i64 n]] w (SopPost a ⟨d, r, wt, u⟩ (kLeave, n) b w) := by
  have hq := (Mod.refl noF w).alloc (.cells #[.string ⟨#[108, 101, 97, 118, 101]⟩, .int .i64 n] 88)
  have hcf : cfOp ⟨d, r, wt, u⟩ (kLeave, n) = (3, ⟨d, r, wt, u⟩) := by
    unfold cfOp
    have hm : memK kindsC ⟨#[108, 101, 97, 118, 101]⟩ = true := by decide +kernel
    simp [hm, kEnter, kLeave, kRest, kWait, kRead, kPut, kDrop, kLater, kFlush, hn]
  have hS1 := hq.heap hS (fun e => e)
  have h0 := cell_of_heap hS1 0
  have h1 := cell_of_heap hS1 1
  have h2 := cell_of_heap hS1 2
  have h3 := cell_of_heap hS1 3
  have f0 := free_of_heap hS1 0
  have f1 := free_of_heap hS1 1
  have f2 := free_of_heap hS1 2
  have f3 := free_of_heap hS1 3
  replace h0 : (w.alloc (.cells #[.string ⟨#[108, 101, 97, 118, 101]⟩, .int .i64 n] 88)).cell? ⟨b, 0, none⟩ = some (.int .i64 ((d : Nat) : Int)) := h0
  replace h1 : (w.alloc (.cells #[.string ⟨#[108, 101, 97, 118, 101]⟩, .int .i64 n] 88)).cell? ⟨b, 1, none⟩ = some (.bool r) := h1
  replace h2 : (w.alloc (.cells #[.string ⟨#[108, 101, 97, 118, 101]⟩, .int .i64 n] 88)).cell? ⟨b, 2, none⟩ = some (.bool wt) := h2
  replace h3 : (w.alloc (.cells #[.string ⟨#[108, 101, 97, 118, 101]⟩, .int .i64 n] 88)).cell? ⟨b, 3, none⟩ = some (.bool u) := h3
  have E1 := E.keep hq
  obtain ⟨gk, off, cap, q0, qx⟩ := HK.keep hq
  have hcall := containsK2 (w.alloc (.cells #[.string ⟨#[108, 101, 97, 118, 101]⟩, .int .i64 n] 88)) gk off cap kindsC kLeave qx (by decide)
  rw [show memK kindsC kLeave = true by decide +kernel] at hcall
  have hl9 : kindsC.length = 9 := rfl
  rw [hl9] at hcall
  have v1 := E1.v1
  have v2 := E1.v2
  have v4 := E1.v4
  have v7 := E1.v7
  have e0 : ((⟨#[108, 101, 97, 118, 101]⟩ : ByteArray).toList == (⟨#[101, 110, 116, 101, 114]⟩ : ByteArray).toList) = false := by
    rw [ByteArray.toList_eq, ByteArray.toList_eq]; rfl
  have e1 : ((⟨#[108, 101, 97, 118, 101]⟩ : ByteArray).toList == (⟨#[108, 101, 97, 118, 101]⟩ : ByteArray).toList) = true := by simp
  have e2 : ((⟨#[108, 101, 97, 118, 101]⟩ : ByteArray).toList == (⟨#[114, 101, 115, 116]⟩ : ByteArray).toList) = false := by
    rw [ByteArray.toList_eq, ByteArray.toList_eq]; rfl
  have e3 : ((⟨#[108, 101, 97, 118, 101]⟩ : ByteArray).toList == (⟨#[119, 97, 105, 116]⟩ : ByteArray).toList) = false := by
    rw [ByteArray.toList_eq, ByteArray.toList_eq]; rfl
  have e4 : ((⟨#[108, 101, 97, 118, 101]⟩ : ByteArray).toList == (⟨#[102, 108, 117, 115, 104]⟩ : ByteArray).toList) = false := by
    rw [ByteArray.toList_eq, ByteArray.toList_eq]; rfl
  have e5 : ((⟨#[108, 101, 97, 118, 101]⟩ : ByteArray).toList == (⟨#[114, 101, 97, 100]⟩ : ByteArray).toList) = false := by
    rw [ByteArray.toList_eq, ByteArray.toList_eq]; rfl
  have e6 : ((⟨#[108, 101, 97, 118, 101]⟩ : ByteArray).toList == (⟨#[112, 117, 116]⟩ : ByteArray).toList) = false := by
    rw [ByteArray.toList_eq, ByteArray.toList_eq]; rfl
  have e7 : ((⟨#[108, 101, 97, 118, 101]⟩ : ByteArray).toList == (⟨#[100, 114, 111, 112]⟩ : ByteArray).toList) = false := by
    rw [ByteArray.toList_eq, ByteArray.toList_eq]; rfl
  have e8 : ((⟨#[108, 101, 97, 118, 101]⟩ : ByteArray).toList == (⟨#[108, 97, 116, 101, 114]⟩ : ByteArray).toList) = false := by
    rw [ByteArray.toList_eq, ByteArray.toList_eq]; rfl
  have n1 : (n == 0) = false := by simpa using hn
  have n2 : decide (n = 0) = false := by simpa using hn
  have HS1 := Lib.hid hS1
  have Hq := Lib.hid hq
  have Hcall := Lib.hid hcall
  have Hcf := Lib.hid hcf
  have hbz : w.heap.size ≠ b := by have := lt_of_block hS; omega
  clear E HK hS hq hcf hS1 E1 qx hcall hl9
  go_enter Tryz.func90, Tryz.ntmps90
  go_wp2_with fail
  refine Hcall.out.mono ?_
  rintro e w2 ⟨rfl, rfl⟩
  go_wp2
  go_ret
  exact sop_bad 2 Hcf.out (by omega) rfl Hq.out.any
theorem sop_rest_n (E : ErrsAt w a) (HK : KindsW w) (hn : n ≠ 0) (hS : StAt w b ⟨d, r, wt, u⟩) :
    Calls Tryz.prog 90 #[.pointer (some ⟨b, 0, none⟩), .agg #[.string ⟨#[114, 101, 115, 116]⟩, .int .i64 n]] w (SopPost a ⟨d, r, wt, u⟩ (kRest, n) b w) := by
  have hq := (Mod.refl noF w).alloc (.cells #[.string ⟨#[114, 101, 115, 116]⟩, .int .i64 n] 88)
  have hcf : cfOp ⟨d, r, wt, u⟩ (kRest, n) = (3, ⟨d, r, wt, u⟩) := by
    unfold cfOp
    have hm : memK kindsC ⟨#[114, 101, 115, 116]⟩ = true := by decide +kernel
    simp [hm, kEnter, kLeave, kRest, kWait, kRead, kPut, kDrop, kLater, kFlush, hn]
  have hS1 := hq.heap hS (fun e => e)
  have h0 := cell_of_heap hS1 0
  have h1 := cell_of_heap hS1 1
  have h2 := cell_of_heap hS1 2
  have h3 := cell_of_heap hS1 3
  have f0 := free_of_heap hS1 0
  have f1 := free_of_heap hS1 1
  have f2 := free_of_heap hS1 2
  have f3 := free_of_heap hS1 3
  replace h0 : (w.alloc (.cells #[.string ⟨#[114, 101, 115, 116]⟩, .int .i64 n] 88)).cell? ⟨b, 0, none⟩ = some (.int .i64 ((d : Nat) : Int)) := h0
  replace h1 : (w.alloc (.cells #[.string ⟨#[114, 101, 115, 116]⟩, .int .i64 n] 88)).cell? ⟨b, 1, none⟩ = some (.bool r) := h1
  replace h2 : (w.alloc (.cells #[.string ⟨#[114, 101, 115, 116]⟩, .int .i64 n] 88)).cell? ⟨b, 2, none⟩ = some (.bool wt) := h2
  replace h3 : (w.alloc (.cells #[.string ⟨#[114, 101, 115, 116]⟩, .int .i64 n] 88)).cell? ⟨b, 3, none⟩ = some (.bool u) := h3
  have E1 := E.keep hq
  obtain ⟨gk, off, cap, q0, qx⟩ := HK.keep hq
  have hcall := containsK2 (w.alloc (.cells #[.string ⟨#[114, 101, 115, 116]⟩, .int .i64 n] 88)) gk off cap kindsC kRest qx (by decide)
  rw [show memK kindsC kRest = true by decide +kernel] at hcall
  have hl9 : kindsC.length = 9 := rfl
  rw [hl9] at hcall
  have v1 := E1.v1
  have v2 := E1.v2
  have v4 := E1.v4
  have v7 := E1.v7
  have e0 : ((⟨#[114, 101, 115, 116]⟩ : ByteArray).toList == (⟨#[101, 110, 116, 101, 114]⟩ : ByteArray).toList) = false := by
    rw [ByteArray.toList_eq, ByteArray.toList_eq]; rfl
  have e1 : ((⟨#[114, 101, 115, 116]⟩ : ByteArray).toList == (⟨#[108, 101, 97, 118, 101]⟩ : ByteArray).toList) = false := by
    rw [ByteArray.toList_eq, ByteArray.toList_eq]; rfl
  have e2 : ((⟨#[114, 101, 115, 116]⟩ : ByteArray).toList == (⟨#[114, 101, 115, 116]⟩ : ByteArray).toList) = true := by simp
  have e3 : ((⟨#[114, 101, 115, 116]⟩ : ByteArray).toList == (⟨#[119, 97, 105, 116]⟩ : ByteArray).toList) = false := by
    rw [ByteArray.toList_eq, ByteArray.toList_eq]; rfl
  have e4 : ((⟨#[114, 101, 115, 116]⟩ : ByteArray).toList == (⟨#[102, 108, 117, 115, 104]⟩ : ByteArray).toList) = false := by
    rw [ByteArray.toList_eq, ByteArray.toList_eq]; rfl
  have e5 : ((⟨#[114, 101, 115, 116]⟩ : ByteArray).toList == (⟨#[114, 101, 97, 100]⟩ : ByteArray).toList) = false := by
    rw [ByteArray.toList_eq, ByteArray.toList_eq]; rfl
  have e6 : ((⟨#[114, 101, 115, 116]⟩ : ByteArray).toList == (⟨#[112, 117, 116]⟩ : ByteArray).toList) = false := by
    rw [ByteArray.toList_eq, ByteArray.toList_eq]; rfl
  have e7 : ((⟨#[114, 101, 115, 116]⟩ : ByteArray).toList == (⟨#[100, 114, 111, 112]⟩ : ByteArray).toList) = false := by
    rw [ByteArray.toList_eq, ByteArray.toList_eq]; rfl
  have e8 : ((⟨#[114, 101, 115, 116]⟩ : ByteArray).toList == (⟨#[108, 97, 116, 101, 114]⟩ : ByteArray).toList) = false := by
    rw [ByteArray.toList_eq, ByteArray.toList_eq]; rfl
  have n1 : (n == 0) = false := by simpa using hn
  have n2 : decide (n = 0) = false := by simpa using hn
  have HS1 := Lib.hid hS1
  have Hq := Lib.hid hq
  have Hcall := Lib.hid hcall
  have Hcf := Lib.hid hcf
  have hbz : w.heap.size ≠ b := by have := lt_of_block hS; omega
  clear E HK hS hq hcf hS1 E1 qx hcall hl9
  go_enter Tryz.func90, Tryz.ntmps90
  go_wp2_with fail
  refine Hcall.out.mono ?_
  rintro e w2 ⟨rfl, rfl⟩
  go_wp2
  go_ret
  exact sop_bad 2 Hcf.out (by omega) rfl Hq.out.any
theorem sop_wait_n (E : ErrsAt w a) (HK : KindsW w) (hn : n ≠ 0) (hS : StAt w b ⟨d, r, wt, u⟩) :
    Calls Tryz.prog 90 #[.pointer (some ⟨b, 0, none⟩), .agg #[.string ⟨#[119, 97, 105, 116]⟩, .int .i64 n]] w (SopPost a ⟨d, r, wt, u⟩ (kWait, n) b w) := by
  have hq := (Mod.refl noF w).alloc (.cells #[.string ⟨#[119, 97, 105, 116]⟩, .int .i64 n] 88)
  have hcf : cfOp ⟨d, r, wt, u⟩ (kWait, n) = (3, ⟨d, r, wt, u⟩) := by
    unfold cfOp
    have hm : memK kindsC ⟨#[119, 97, 105, 116]⟩ = true := by decide +kernel
    simp [hm, kEnter, kLeave, kRest, kWait, kRead, kPut, kDrop, kLater, kFlush, hn]
  have hS1 := hq.heap hS (fun e => e)
  have h0 := cell_of_heap hS1 0
  have h1 := cell_of_heap hS1 1
  have h2 := cell_of_heap hS1 2
  have h3 := cell_of_heap hS1 3
  have f0 := free_of_heap hS1 0
  have f1 := free_of_heap hS1 1
  have f2 := free_of_heap hS1 2
  have f3 := free_of_heap hS1 3
  replace h0 : (w.alloc (.cells #[.string ⟨#[119, 97, 105, 116]⟩, .int .i64 n] 88)).cell? ⟨b, 0, none⟩ = some (.int .i64 ((d : Nat) : Int)) := h0
  replace h1 : (w.alloc (.cells #[.string ⟨#[119, 97, 105, 116]⟩, .int .i64 n] 88)).cell? ⟨b, 1, none⟩ = some (.bool r) := h1
  replace h2 : (w.alloc (.cells #[.string ⟨#[119, 97, 105, 116]⟩, .int .i64 n] 88)).cell? ⟨b, 2, none⟩ = some (.bool wt) := h2
  replace h3 : (w.alloc (.cells #[.string ⟨#[119, 97, 105, 116]⟩, .int .i64 n] 88)).cell? ⟨b, 3, none⟩ = some (.bool u) := h3
  have E1 := E.keep hq
  obtain ⟨gk, off, cap, q0, qx⟩ := HK.keep hq
  have hcall := containsK2 (w.alloc (.cells #[.string ⟨#[119, 97, 105, 116]⟩, .int .i64 n] 88)) gk off cap kindsC kWait qx (by decide)
  rw [show memK kindsC kWait = true by decide +kernel] at hcall
  have hl9 : kindsC.length = 9 := rfl
  rw [hl9] at hcall
  have v1 := E1.v1
  have v2 := E1.v2
  have v4 := E1.v4
  have v7 := E1.v7
  have e0 : ((⟨#[119, 97, 105, 116]⟩ : ByteArray).toList == (⟨#[101, 110, 116, 101, 114]⟩ : ByteArray).toList) = false := by
    rw [ByteArray.toList_eq, ByteArray.toList_eq]; rfl
  have e1 : ((⟨#[119, 97, 105, 116]⟩ : ByteArray).toList == (⟨#[108, 101, 97, 118, 101]⟩ : ByteArray).toList) = false := by
    rw [ByteArray.toList_eq, ByteArray.toList_eq]; rfl
  have e2 : ((⟨#[119, 97, 105, 116]⟩ : ByteArray).toList == (⟨#[114, 101, 115, 116]⟩ : ByteArray).toList) = false := by
    rw [ByteArray.toList_eq, ByteArray.toList_eq]; rfl
  have e3 : ((⟨#[119, 97, 105, 116]⟩ : ByteArray).toList == (⟨#[119, 97, 105, 116]⟩ : ByteArray).toList) = true := by simp
  have e4 : ((⟨#[119, 97, 105, 116]⟩ : ByteArray).toList == (⟨#[102, 108, 117, 115, 104]⟩ : ByteArray).toList) = false := by
    rw [ByteArray.toList_eq, ByteArray.toList_eq]; rfl
  have e5 : ((⟨#[119, 97, 105, 116]⟩ : ByteArray).toList == (⟨#[114, 101, 97, 100]⟩ : ByteArray).toList) = false := by
    rw [ByteArray.toList_eq, ByteArray.toList_eq]; rfl
  have e6 : ((⟨#[119, 97, 105, 116]⟩ : ByteArray).toList == (⟨#[112, 117, 116]⟩ : ByteArray).toList) = false := by
    rw [ByteArray.toList_eq, ByteArray.toList_eq]; rfl
  have e7 : ((⟨#[119, 97, 105, 116]⟩ : ByteArray).toList == (⟨#[100, 114, 111, 112]⟩ : ByteArray).toList) = false := by
    rw [ByteArray.toList_eq, ByteArray.toList_eq]; rfl
  have e8 : ((⟨#[119, 97, 105, 116]⟩ : ByteArray).toList == (⟨#[108, 97, 116, 101, 114]⟩ : ByteArray).toList) = false := by
    rw [ByteArray.toList_eq, ByteArray.toList_eq]; rfl
  have n1 : (n == 0) = false := by simpa using hn
  have n2 : decide (n = 0) = false := by simpa using hn
  have HS1 := Lib.hid hS1
  have Hq := Lib.hid hq
  have Hcall := Lib.hid hcall
  have Hcf := Lib.hid hcf
  have hbz : w.heap.size ≠ b := by have := lt_of_block hS; omega
  clear E HK hS hq hcf hS1 E1 qx hcall hl9
  go_enter Tryz.func90, Tryz.ntmps90
  go_wp2_with fail
  refine Hcall.out.mono ?_
  rintro e w2 ⟨rfl, rfl⟩
  go_wp2
  go_ret
  exact sop_bad 2 Hcf.out (by omega) rfl Hq.out.any
theorem sop_read_n (E : ErrsAt w a) (HK : KindsW w) (hn : n ≠ 0) (hS : StAt w b ⟨d, r, wt, u⟩) :
    Calls Tryz.prog 90 #[.pointer (some ⟨b, 0, none⟩), .agg #[.string ⟨#[114, 101, 97, 100]⟩, .int .i64 n]] w (SopPost a ⟨d, r, wt, u⟩ (kRead, n) b w) := by
  have hq := (Mod.refl noF w).alloc (.cells #[.string ⟨#[114, 101, 97, 100]⟩, .int .i64 n] 88)
  have hcf : cfOp ⟨d, r, wt, u⟩ (kRead, n) = (3, ⟨d, r, wt, u⟩) := by
    unfold cfOp
    have hm : memK kindsC ⟨#[114, 101, 97, 100]⟩ = true := by decide +kernel
    simp [hm, kEnter, kLeave, kRest, kWait, kRead, kPut, kDrop, kLater, kFlush, hn]
  have hS1 := hq.heap hS (fun e => e)
  have h0 := cell_of_heap hS1 0
  have h1 := cell_of_heap hS1 1
  have h2 := cell_of_heap hS1 2
  have h3 := cell_of_heap hS1 3
  have f0 := free_of_heap hS1 0
  have f1 := free_of_heap hS1 1
  have f2 := free_of_heap hS1 2
  have f3 := free_of_heap hS1 3
  replace h0 : (w.alloc (.cells #[.string ⟨#[114, 101, 97, 100]⟩, .int .i64 n] 88)).cell? ⟨b, 0, none⟩ = some (.int .i64 ((d : Nat) : Int)) := h0
  replace h1 : (w.alloc (.cells #[.string ⟨#[114, 101, 97, 100]⟩, .int .i64 n] 88)).cell? ⟨b, 1, none⟩ = some (.bool r) := h1
  replace h2 : (w.alloc (.cells #[.string ⟨#[114, 101, 97, 100]⟩, .int .i64 n] 88)).cell? ⟨b, 2, none⟩ = some (.bool wt) := h2
  replace h3 : (w.alloc (.cells #[.string ⟨#[114, 101, 97, 100]⟩, .int .i64 n] 88)).cell? ⟨b, 3, none⟩ = some (.bool u) := h3
  have E1 := E.keep hq
  obtain ⟨gk, off, cap, q0, qx⟩ := HK.keep hq
  have hcall := containsK2 (w.alloc (.cells #[.string ⟨#[114, 101, 97, 100]⟩, .int .i64 n] 88)) gk off cap kindsC kRead qx (by decide)
  rw [show memK kindsC kRead = true by decide +kernel] at hcall
  have hl9 : kindsC.length = 9 := rfl
  rw [hl9] at hcall
  have v1 := E1.v1
  have v2 := E1.v2
  have v4 := E1.v4
  have v7 := E1.v7
  have e0 : ((⟨#[114, 101, 97, 100]⟩ : ByteArray).toList == (⟨#[101, 110, 116, 101, 114]⟩ : ByteArray).toList) = false := by
    rw [ByteArray.toList_eq, ByteArray.toList_eq]; rfl
  have e1 : ((⟨#[114, 101, 97, 100]⟩ : ByteArray).toList == (⟨#[108, 101, 97, 118, 101]⟩ : ByteArray).toList) = false := by
    rw [ByteArray.toList_eq, ByteArray.toList_eq]; rfl
  have e2 : ((⟨#[114, 101, 97, 100]⟩ : ByteArray).toList == (⟨#[114, 101, 115, 116]⟩ : ByteArray).toList) = false := by
    rw [ByteArray.toList_eq, ByteArray.toList_eq]; rfl
  have e3 : ((⟨#[114, 101, 97, 100]⟩ : ByteArray).toList == (⟨#[119, 97, 105, 116]⟩ : ByteArray).toList) = false := by
    rw [ByteArray.toList_eq, ByteArray.toList_eq]; rfl
  have e4 : ((⟨#[114, 101, 97, 100]⟩ : ByteArray).toList == (⟨#[102, 108, 117, 115, 104]⟩ : ByteArray).toList) = false := by
    rw [ByteArray.toList_eq, ByteArray.toList_eq]; rfl
  have e5 : ((⟨#[114, 101, 97, 100]⟩ : ByteArray).toList == (⟨#[114, 101, 97, 100]⟩ : ByteArray).toList) = true := by simp
  have e6 : ((⟨#[114, 101, 97, 100]⟩ : ByteArray).toList == (⟨#[112, 117, 116]⟩ : ByteArray).toList) = false := by
    rw [ByteArray.toList_eq, ByteArray.toList_eq]; rfl
  have e7 : ((⟨#[114, 101, 97, 100]⟩ : ByteArray).toList == (⟨#[100, 114, 111, 112]⟩ : ByteArray).toList) = false := by
    rw [ByteArray.toList_eq, ByteArray.toList_eq]; rfl
  have e8 : ((⟨#[114, 101, 97, 100]⟩ : ByteArray).toList == (⟨#[108, 97, 116, 101, 114]⟩ : ByteArray).toList) = false := by
    rw [ByteArray.toList_eq, ByteArray.toList_eq]; rfl
  have n1 : (n == 0) = false := by simpa using hn
  have n2 : decide (n = 0) = false := by simpa using hn
  have HS1 := Lib.hid hS1
  have Hq := Lib.hid hq
  have Hcall := Lib.hid hcall
  have Hcf := Lib.hid hcf
  have hbz : w.heap.size ≠ b := by have := lt_of_block hS; omega
  clear E HK hS hq hcf hS1 E1 qx hcall hl9
  go_enter Tryz.func90, Tryz.ntmps90
  go_wp2_with fail
  refine Hcall.out.mono ?_
  rintro e w2 ⟨rfl, rfl⟩
  go_wp2
  go_ret
  exact sop_bad 2 Hcf.out (by omega) rfl Hq.out.any
theorem sop_drop_n (E : ErrsAt w a) (HK : KindsW w) (hn : n ≠ 0) (hS : StAt w b ⟨d, r, wt, u⟩) :
    Calls Tryz.prog 90 #[.pointer (some ⟨b, 0, none⟩), .agg #[.string ⟨#[100, 114, 111, 112]⟩, .int .i64 n]] w (SopPost a ⟨d, r, wt, u⟩ (kDrop, n) b w) := by
  have hq := (Mod.refl noF w).alloc (.cells #[.string ⟨#[100, 114, 111, 112]⟩, .int .i64 n] 88)
  have hcf : cfOp ⟨d, r, wt, u⟩ (kDrop, n) = (3, ⟨d, r, wt, u⟩) := by
    unfold cfOp
    have hm : memK kindsC ⟨#[100, 114, 111, 112]⟩ = true := by decide +kernel
    simp [hm, kEnter, kLeave, kRest, kWait, kRead, kPut, kDrop, kLater, kFlush, hn]
  have hS1 := hq.heap hS (fun e => e)
  have h0 := cell_of_heap hS1 0
  have h1 := cell_of_heap hS1 1
  have h2 := cell_of_heap hS1 2
  have h3 := cell_of_heap hS1 3
  have f0 := free_of_heap hS1 0
  have f1 := free_of_heap hS1 1
  have f2 := free_of_heap hS1 2
  have f3 := free_of_heap hS1 3
  replace h0 : (w.alloc (.cells #[.string ⟨#[100, 114, 111, 112]⟩, .int .i64 n] 88)).cell? ⟨b, 0, none⟩ = some (.int .i64 ((d : Nat) : Int)) := h0
  replace h1 : (w.alloc (.cells #[.string ⟨#[100, 114, 111, 112]⟩, .int .i64 n] 88)).cell? ⟨b, 1, none⟩ = some (.bool r) := h1
  replace h2 : (w.alloc (.cells #[.string ⟨#[100, 114, 111, 112]⟩, .int .i64 n] 88)).cell? ⟨b, 2, none⟩ = some (.bool wt) := h2
  replace h3 : (w.alloc (.cells #[.string ⟨#[100, 114, 111, 112]⟩, .int .i64 n] 88)).cell? ⟨b, 3, none⟩ = some (.bool u) := h3
  have E1 := E.keep hq
  obtain ⟨gk, off, cap, q0, qx⟩ := HK.keep hq
  have hcall := containsK2 (w.alloc (.cells #[.string ⟨#[100, 114, 111, 112]⟩, .int .i64 n] 88)) gk off cap kindsC kDrop qx (by decide)
  rw [show memK kindsC kDrop = true by decide +kernel] at hcall
  have hl9 : kindsC.length = 9 := rfl
  rw [hl9] at hcall
  have v1 := E1.v1
  have v2 := E1.v2
  have v4 := E1.v4
  have v7 := E1.v7
  have e0 : ((⟨#[100, 114, 111, 112]⟩ : ByteArray).toList == (⟨#[101, 110, 116, 101, 114]⟩ : ByteArray).toList) = false := by
    rw [ByteArray.toList_eq, ByteArray.toList_eq]; rfl
  have e1 : ((⟨#[100, 114, 111, 112]⟩ : ByteArray).toList == (⟨#[108, 101, 97, 118, 101]⟩ : ByteArray).toList) = false := by
    rw [ByteArray.toList_eq, ByteArray.toList_eq]; rfl
  have e2 : ((⟨#[100, 114, 111, 112]⟩ : ByteArray).toList == (⟨#[114, 101, 115, 116]⟩ : ByteArray).toList) = false := by
    rw [ByteArray.toList_eq, ByteArray.toList_eq]; rfl
  have e3 : ((⟨#[100, 114, 111, 112]⟩ : ByteArray).toList == (⟨#[119, 97, 105, 116]⟩ : ByteArray).toList) = false := by
    rw [ByteArray.toList_eq, ByteArray.toList_eq]; rfl
  have e4 : ((⟨#[100, 114, 111, 112]⟩ : ByteArray).toList == (⟨#[102, 108, 117, 115, 104]⟩ : ByteArray).toList) = false := by
    rw [ByteArray.toList_eq, ByteArray.toList_eq]; rfl
  have e5 : ((⟨#[100, 114, 111, 112]⟩ : ByteArray).toList == (⟨#[114, 101, 97, 100]⟩ : ByteArray).toList) = false := by
    rw [ByteArray.toList_eq, ByteArray.toList_eq]; rfl
  have e6 : ((⟨#[100, 114, 111, 112]⟩ : ByteArray).toList == (⟨#[112, 117, 116]⟩ : ByteArray).toList) = false := by
    rw [ByteArray.toList_eq, ByteArray.toList_eq]; rfl
  have e7 : ((⟨#[100, 114, 111, 112]⟩ : ByteArray).toList == (⟨#[100, 114, 111, 112]⟩ : ByteArray).toList) = true := by simp
  have e8 : ((⟨#[100, 114, 111, 112]⟩ : ByteArray).toList == (⟨#[108, 97, 116, 101, 114]⟩ : ByteArray).toList) = false := by
    rw [ByteArray.toList_eq, ByteArray.toList_eq]; rfl
  have n1 : (n == 0) = false := by simpa using hn
  have n2 : decide (n = 0) = false := by simpa using hn
  have HS1 := Lib.hid hS1
  have Hq := Lib.hid hq
  have Hcall := Lib.hid hcall
  have Hcf := Lib.hid hcf
  have hbz : w.heap.size ≠ b := by have := lt_of_block hS; omega
  clear E HK hS hq hcf hS1 E1 qx hcall hl9
  go_enter Tryz.func90, Tryz.ntmps90
  go_wp2_with fail
  refine Hcall.out.mono ?_
  rintro e w2 ⟨rfl, rfl⟩
  go_wp2
  go_ret
  exact sop_bad 2 Hcf.out (by omega) rfl Hq.out.any
theorem sop_later_n (E : ErrsAt w a) (HK : KindsW w) (hn : n ≠ 0) (hS : StAt w b ⟨d, r, wt, u⟩) :
    Calls Tryz.prog 90 #[.pointer (some ⟨b, 0, none⟩), .agg #[.string ⟨#[108, 97, 116, 101, 114]⟩, .int .i64 n]] w (SopPost a ⟨d, r, wt, u⟩ (kLater, n) b w) := by
  have hq := (Mod.refl noF w).alloc (.cells #[.string ⟨#[108, 97, 116, 101, 114]⟩, .int .i64 n] 88)
  have hcf : cfOp ⟨d, r, wt, u⟩ (kLater, n) = (3, ⟨d, r, wt, u⟩) := by
    unfold cfOp
    have hm : memK kindsC ⟨#[108, 97, 116, 101, 114]⟩ = true := by decide +kernel
    simp [hm, kEnter, kLeave, kRest, kWait, kRead, kPut, kDrop, kLater, kFlush, hn]
  have hS1 := hq.heap hS (fun e => e)
  have h0 := cell_of_heap hS1 0
  have h1 := cell_of_heap hS1 1
  have h2 := cell_of_heap hS1 2
  have h3 := cell_of_heap hS1 3
  have f0 := free_of_heap hS1 0
  have f1 := free_of_heap hS1 1
  have f2 := free_of_heap hS1 2
  have f3 := free_of_heap hS1 3
  replace h0 : (w.alloc (.cells #[.string ⟨#[108, 97, 116, 101, 114]⟩, .int .i64 n] 88)).cell? ⟨b, 0, none⟩ = some (.int .i64 ((d : Nat) : Int)) := h0
  replace h1 : (w.alloc (.cells #[.string ⟨#[108, 97, 116, 101, 114]⟩, .int .i64 n] 88)).cell? ⟨b, 1, none⟩ = some (.bool r) := h1
  replace h2 : (w.alloc (.cells #[.string ⟨#[108, 97, 116, 101, 114]⟩, .int .i64 n] 88)).cell? ⟨b, 2, none⟩ = some (.bool wt) := h2
  replace h3 : (w.alloc (.cells #[.string ⟨#[108, 97, 116, 101, 114]⟩, .int .i64 n] 88)).cell? ⟨b, 3, none⟩ = some (.bool u) := h3
  have E1 := E.keep hq
  obtain ⟨gk, off, cap, q0, qx⟩ := HK.keep hq
  have hcall := containsK2 (w.alloc (.cells #[.string ⟨#[108, 97, 116, 101, 114]⟩, .int .i64 n] 88)) gk off cap kindsC kLater qx (by decide)
  rw [show memK kindsC kLater = true by decide +kernel] at hcall
  have hl9 : kindsC.length = 9 := rfl
  rw [hl9] at hcall
  have v1 := E1.v1
  have v2 := E1.v2
  have v4 := E1.v4
  have v7 := E1.v7
  have e0 : ((⟨#[108, 97, 116, 101, 114]⟩ : ByteArray).toList == (⟨#[101, 110, 116, 101, 114]⟩ : ByteArray).toList) = false := by
    rw [ByteArray.toList_eq, ByteArray.toList_eq]; rfl
  have e1 : ((⟨#[108, 97, 116, 101, 114]⟩ : ByteArray).toList == (⟨#[108, 101, 97, 118, 101]⟩ : ByteArray).toList) = false := by
    rw [ByteArray.toList_eq, ByteArray.toList_eq]; rfl
  have e2 : ((⟨#[108, 97, 116, 101, 114]⟩ : ByteArray).toList == (⟨#[114, 101, 115, 116]⟩ : ByteArray).toList) = false := by
    rw [ByteArray.toList_eq, ByteArray.toList_eq]; rfl
  have e3 : ((⟨#[108, 97, 116, 101, 114]⟩ : ByteArray).toList == (⟨#[119, 97, 105, 116]⟩ : ByteArray).toList) = false := by
    rw [ByteArray.toList_eq, ByteArray.toList_eq]; rfl
  have e4 : ((⟨#[108, 97, 116, 101, 114]⟩ : ByteArray).toList == (⟨#[102, 108, 117, 115, 104]⟩ : ByteArray).toList) = false := by
    rw [ByteArray.toList_eq, ByteArray.toList_eq]; rfl
  have e5 : ((⟨#[108, 97, 116, 101, 114]⟩ : ByteArray).toList == (⟨#[114, 101, 97, 100]⟩ : ByteArray).toList) = false := by
    rw [ByteArray.toList_eq, ByteArray.toList_eq]; rfl
  have e6 : ((⟨#[108, 97, 116, 101, 114]⟩ : ByteArray).toList == (⟨#[112, 117, 116]⟩ : ByteArray).toList) = false := by
    rw [ByteArray.toList_eq, ByteArray.toList_eq]; rfl
  have e7 : ((⟨#[108, 97, 116, 101, 114]⟩ : ByteArray).toList == (⟨#[100, 114, 111, 112]⟩ : ByteArray).toList) = false := by
    rw [ByteArray.toList_eq, ByteArray.toList_eq]; rfl
  have e8 : ((⟨#[108, 97, 116, 101, 114]⟩ : ByteArray).toList == (⟨#[108, 97, 116, 101, 114]⟩ : ByteArray).toList) = true := by simp
  have n1 : (n == 0) = false := by simpa using hn
  have n2 : decide (n = 0) = false := by simpa using hn
  have HS1 := Lib.hid hS1
  have Hq := Lib.hid hq
  have Hcall := Lib.hid hcall
  have Hcf := Lib.hid hcf
  have hbz : w.heap.size ≠ b := by have := lt_of_block hS; omega
  clear E HK hS hq hcf hS1 E1 qx hcall hl9
  go_enter Tryz.func90, Tryz.ntmps90
  go_wp2_with fail
  refine Hcall.out.mono ?_
  rintro e w2 ⟨rfl, rfl⟩
  go_wp2
  go_ret
  exact sop_bad 2 Hcf.out (by omega) rfl Hq.out.any
theorem sop_flush_n (E : ErrsAt w a) (HK : KindsW w) (hn : n ≠ 0) (hS : StAt w b ⟨d, r, wt, u⟩) :
    Calls Tryz.prog 90 #[.pointer (some ⟨b, 0, none⟩), .agg #[.string ⟨#[102, 108, 117, 115, 104]⟩, .int .i64 n]] w (SopPost a ⟨d, r, wt, u⟩ (kFlush, n) b w) := by
  have hq := (Mod.refl noF w).alloc (.cells #[.string ⟨#[102, 108, 117, 115, 104]⟩, .int .i64 n] 88)
  have hcf : cfOp ⟨d, r, wt, u⟩ (kFlush, n) = (3, ⟨d, r, wt, u⟩) := by
    unfold cfOp
    have hm : memK kindsC ⟨#[102, 108, 117, 115, 104]⟩ = true := by decide +kernel
    simp [hm, kEnter, kLeave, kRest, kWait, kRead, kPut, kDrop, kLater, kFlush, hn]
  have hS1 := hq.heap hS (fun e => e)
  have h0 := cell_of_heap hS1 0
  have h1 := cell_of_heap hS1 1
  have h2 := cell_of_heap hS1 2
  have h3 := cell_of_heap hS1 3
  have f0 := free_of_heap hS1 0
  have f1 := free_of_heap hS1 1
  have f2 := free_of_heap hS1 2
  have f3 := free_of_heap hS1 3
  replace h0 : (w.alloc (.cells #[.string ⟨#[102, 108, 117, 115, 104]⟩, .int .i64 n] 88)).cell? ⟨b, 0, none⟩ = some (.int .i64 ((d : Nat) : Int)) := h0
  replace h1 : (w.alloc (.cells #[.string ⟨#[102, 108, 117, 115, 104]⟩, .int .i64 n] 88)).cell? ⟨b, 1, none⟩ = some (.bool r) := h1
  replace h2 : (w.alloc (.cells #[.string ⟨#[102, 108, 117, 115, 104]⟩, .int .i64 n] 88)).cell? ⟨b, 2, none⟩ = some (.bool wt) := h2
  replace h3 : (w.alloc (.cells #[.string ⟨#[102, 108, 117, 115, 104]⟩, .int .i64 n] 88)).cell? ⟨b, 3, none⟩ = some (.bool u) := h3
  have E1 := E.keep hq
  obtain ⟨gk, off, cap, q0, qx⟩ := HK.keep hq
  have hcall := containsK2 (w.alloc (.cells #[.string ⟨#[102, 108, 117, 115, 104]⟩, .int .i64 n] 88)) gk off cap kindsC kFlush qx (by decide)
  rw [show memK kindsC kFlush = true by decide +kernel] at hcall
  have hl9 : kindsC.length = 9 := rfl
  rw [hl9] at hcall
  have v1 := E1.v1
  have v2 := E1.v2
  have v4 := E1.v4
  have v7 := E1.v7
  have e0 : ((⟨#[102, 108, 117, 115, 104]⟩ : ByteArray).toList == (⟨#[101, 110, 116, 101, 114]⟩ : ByteArray).toList) = false := by
    rw [ByteArray.toList_eq, ByteArray.toList_eq]; rfl
  have e1 : ((⟨#[102, 108, 117, 115, 104]⟩ : ByteArray).toList == (⟨#[108, 101, 97, 118, 101]⟩ : ByteArray).toList) = false := by
    rw [ByteArray.toList_eq, ByteArray.toList_eq]; rfl
  have e2 : ((⟨#[102, 108, 117, 115, 104]⟩ : ByteArray).toList == (⟨#[114, 101, 115, 116]⟩ : ByteArray).toList) = false := by
    rw [ByteArray.toList_eq, ByteArray.toList_eq]; rfl
  have e3 : ((⟨#[102, 108, 117, 115, 104]⟩ : ByteArray).toList == (⟨#[119, 97, 105, 116]⟩ : ByteArray).toList) = false := by
    rw [ByteArray.toList_eq, ByteArray.toList_eq]; rfl
  have e4 : ((⟨#[102, 108, 117, 115, 104]⟩ : ByteArray).toList == (⟨#[102, 108, 117, 115, 104]⟩ : ByteArray).toList) = true := by simp
  have e5 : ((⟨#[102, 108, 117, 115, 104]⟩ : ByteArray).toList == (⟨#[114, 101, 97, 100]⟩ : ByteArray).toList) = false := by
    rw [ByteArray.toList_eq, ByteArray.toList_eq]; rfl
  have e6 : ((⟨#[102, 108, 117, 115, 104]⟩ : ByteArray).toList == (⟨#[112, 117, 116]⟩ : ByteArray).toList) = false := by
    rw [ByteArray.toList_eq, ByteArray.toList_eq]; rfl
  have e7 : ((⟨#[102, 108, 117, 115, 104]⟩ : ByteArray).toList == (⟨#[100, 114, 111, 112]⟩ : ByteArray).toList) = false := by
    rw [ByteArray.toList_eq, ByteArray.toList_eq]; rfl
  have e8 : ((⟨#[102, 108, 117, 115, 104]⟩ : ByteArray).toList == (⟨#[108, 97, 116, 101, 114]⟩ : ByteArray).toList) = false := by
    rw [ByteArray.toList_eq, ByteArray.toList_eq]; rfl
  have n1 : (n == 0) = false := by simpa using hn
  have n2 : decide (n = 0) = false := by simpa using hn
  have HS1 := Lib.hid hS1
  have Hq := Lib.hid hq
  have Hcall := Lib.hid hcall
  have Hcf := Lib.hid hcf
  have hbz : w.heap.size ≠ b := by have := lt_of_block hS; omega
  clear E HK hS hq hcf hS1 E1 qx hcall hl9
  go_enter Tryz.func90, Tryz.ntmps90
  go_wp2_with fail
  refine Hcall.out.mono ?_
  rintro e w2 ⟨rfl, rfl⟩
  go_wp2
  go_ret
  exact sop_bad 2 Hcf.out (by omega) rfl Hq.out.any
theorem sop_enter (E : ErrsAt w a) (HK : KindsW w) (hd : d ≤ 1000) (hS : StAt w b ⟨d, r, wt, u⟩) :
    Calls Tryz.prog 90 #[.pointer (some ⟨b, 0, none⟩), .agg #[.string ⟨#[101, 110, 116, 101, 114]⟩, .int .i64 0]] w (SopPost a ⟨d, r, wt, u⟩ (kEnter, 0) b w) := by
  have hq := (Mod.refl noF w).alloc (.cells #[.string ⟨#[101, 110, 116, 101, 114]⟩, .int .i64 0] 88)
  have hcf : cfOp ⟨d, r, wt, u⟩ (kEnter, 0) = (0, ⟨d + 1, r, wt, u⟩) := by
    unfold cfOp
    have hm : memK kindsC ⟨#[101, 110, 116, 101, 114]⟩ = true := by decide +kernel
    simp [hm, kEnter, kLeave, kRest, kWait, kRead, kPut, kDrop, kLater, kFlush]
  have hS1 := hq.heap hS (fun e => e)
  have h0 := cell_of_heap hS1 0
  have h1 := cell_of_heap hS1 1
  have h2 := cell_of_heap hS1 2
  have h3 := cell_of_heap hS1 3
  have f0 := free_of_heap hS1 0
  have f1 := free_of_heap hS1 1
  have f2 := free_of_heap hS1 2
  have f3 := free_of_heap hS1 3
  replace h0 : (w.alloc (.cells #[.string ⟨#[101, 110, 116, 101, 114]⟩, .int .i64 0] 88)).cell? ⟨b, 0, none⟩ = some (.int .i64 ((d : Nat) : Int)) := h0
  replace h1 : (w.alloc (.cells #[.string ⟨#[101, 110, 116, 101, 114]⟩, .int .i64 0] 88)).cell? ⟨b, 1, none⟩ = some (.bool r) := h1
  replace h2 : (w.alloc (.cells #[.string ⟨#[101, 110, 116, 101, 114]⟩, .int .i64 0] 88)).cell? ⟨b, 2, none⟩ = some (.bool wt) := h2
  replace h3 : (w.alloc (.cells #[.string ⟨#[101, 110, 116, 101, 114]⟩, .int .i64 0] 88)).cell? ⟨b, 3, none⟩ = some (.bool u) := h3
  have E1 := E.keep hq
  obtain ⟨gk, off, cap, q0, qx⟩ := HK.keep hq
  have hcall := containsK2 (w.alloc (.cells #[.string ⟨#[101, 110, 116, 101, 114]⟩, .int .i64 0] 88)) gk off cap kindsC kEnter qx (by decide)
  rw [show memK kindsC kEnter = true by decide +kernel] at hcall
  have hl9 : kindsC.length = 9 := rfl
  rw [hl9] at hcall
  have v1 := E1.v1
  have v2 := E1.v2
  have v4 := E1.v4
  have v7 := E1.v7
  have e0 : ((⟨#[101, 110, 116, 101, 114]⟩ : ByteArray).toList == (⟨#[101, 110, 116, 101, 114]⟩ : ByteArray).toList) = true := by simp
  have e1 : ((⟨#[101, 110, 116, 101, 114]⟩ : ByteArray).toList == (⟨#[108, 101, 97, 118, 101]⟩ : ByteArray).toList) = false := by
    rw [ByteArray.toList_eq, ByteArray.toList_eq]; rfl
  have e2 : ((⟨#[101, 110, 116, 101, 114]⟩ : ByteArray).toList == (⟨#[114, 101, 115, 116]⟩ : ByteArray).toList) = false := by
    rw [ByteArray.toList_eq, ByteArray.toList_eq]; rfl
  have e3 : ((⟨#[101, 110, 116, 101, 114]⟩ : ByteArray).toList == (⟨#[119, 97, 105, 116]⟩ : ByteArray).toList) = false := by
    rw [ByteArray.toList_eq, ByteArray.toList_eq]; rfl
  have e4 : ((⟨#[101, 110, 116, 101, 114]⟩ : ByteArray).toList == (⟨#[102, 108, 117, 115, 104]⟩ : ByteArray).toList) = false := by
    rw [ByteArray.toList_eq, ByteArray.toList_eq]; rfl
  have e5 : ((⟨#[101, 110, 116, 101, 114]⟩ : ByteArray).toList == (⟨#[114, 101, 97, 100]⟩ : ByteArray).toList) = false := by
    rw [ByteArray.toList_eq, ByteArray.toList_eq]; rfl
  have e6 : ((⟨#[101, 110, 116, 101, 114]⟩ : ByteArray).toList == (⟨#[112, 117, 116]⟩ : ByteArray).toList) = false := by
    rw [ByteArray.toList_eq, ByteArray.toList_eq]; rfl
  have e7 : ((⟨#[101, 110, 116, 101, 114]⟩ : ByteArray).toList == (⟨#[100, 114, 111, 112]⟩ : ByteArray).toList) = false := by
    rw [ByteArray.toList_eq, ByteArray.toList_eq]; rfl
  have e8 : ((⟨#[101, 110, 116, 101, 114]⟩ : ByteArray).toList == (⟨#[108, 97, 116, 101, 114]⟩ : ByteArray).toList) = false := by
    rw [ByteArray.toList_eq, ByteArray.toList_eq]; rfl
  have HS1 := Lib.hid hS1
  have Hq := Lib.hid hq
  have Hcall := Lib.hid hcall
  have Hcf := Lib.hid hcf
  have hbz : w.heap.size ≠ b := by have := lt_of_block hS; omega
  clear E HK hS hq hcf hS1 E1 qx hcall hl9
  go_enter Tryz.func90, Tryz.ntmps90
  go_wp2_with fail
  refine Hcall.out.mono ?_
  rintro e w2 ⟨rfl, rfl⟩
  go_wp2
  go_ret
  refine sop_good Hcf.out ?_ ((show Qh.Mod (fun k => k = b) w _ from Hq.out.any).setCell (fun _ => rfl) _)
  unfold StAt
  rw [show (((d + 1 : Nat)) : Int) = (d : Int) + 1 by omega]; rw [Qh.heap_setCell_same (HS1.out) 0 _]; rfl
theorem sop_leave_0 (E : ErrsAt w a) (HK : KindsW w) (hS : StAt w b ⟨0, r, wt, u⟩) :
    Calls Tryz.prog 90 #[.pointer (some ⟨b, 0, none⟩), .agg #[.string ⟨#[108, 101, 97, 118, 101]⟩, .int .i64 0]] w (SopPost a ⟨0, r, wt, u⟩ (kLeave, 0) b w) := by
  have hq := (Mod.refl noF w).alloc (.cells #[.string ⟨#[108, 101, 97, 118, 101]⟩, .int .i64 0] 88)
  have hcf : cfOp ⟨0, r, wt, u⟩ (kLeave, 0) = (8, ⟨0, r, wt, u⟩) := by
    unfold cfOp
    have hm : memK kindsC ⟨#[108, 101, 97, 118, 101]⟩ = true := by decide +kernel
    simp [hm, kEnter, kLeave, kRest, kWait, kRead, kPut, kDrop, kLater, kFlush]
  have hS1 := hq.heap hS (fun e => e)
  have h0 := cell_of_heap hS1 0
  have h1 := cell_of_heap hS1 1
  have h2 := cell_of_heap hS1 2
  have h3 := cell_of_heap hS1 3
  have f0 := free_of_heap hS1 0
  have f1 := free_of_heap hS1 1
  have f2 := free_of_heap hS1 2
  have f3 := free_of_heap hS1 3
  replace h0 : (w.alloc (.cells #[.string ⟨#[108, 101, 97, 118, 101]⟩, .int .i64 0] 88)).cell? ⟨b, 0, none⟩ = some (.int .i64 ((0 : Nat) : Int)) := h0
  replace h1 : (w.alloc (.cells #[.string ⟨#[108, 101, 97, 118, 101]⟩, .int .i64 0] 88)).cell? ⟨b, 1, none⟩ = some (.bool r) := h1
  replace h2 : (w.alloc (.cells #[.string ⟨#[108, 101, 97, 118, 101]⟩, .int .i64 0] 88)).cell? ⟨b, 2, none⟩ = some (.bool wt) := h2
  replace h3 : (w.alloc (.cells #[.string ⟨#[108, 101, 97, 118, 101]⟩, .int .i64 0] 88)).cell? ⟨b, 3, none⟩ = some (.bool u) := h3
  have E1 := E.keep hq
  obtain ⟨gk, off, cap, q0, qx⟩ := HK.keep hq
  have hcall := containsK2 (w.alloc (.cells #[.string ⟨#[108, 101, 97, 118, 101]⟩, .int .i64 0] 88)) gk off cap kindsC kLeave qx (by decide)
  rw [show memK kindsC kLeave = true by decide +kernel] at hcall
  have hl9 : kindsC.length = 9 := rfl
  rw [hl9] at hcall
  have v1 := E1.v1
  have v2 := E1.v2
  have v4 := E1.v4
  have v7 := E1.v7
  have e0 : ((⟨#[108, 101, 97, 118, 101]⟩ : ByteArray).toList == (⟨#[101, 110, 116, 101, 114]⟩ : ByteArray).toList) = false := by
    rw [ByteArray.toList_eq, ByteArray.toList_eq]; rfl
  have e1 : ((⟨#[108, 101, 97, 118, 101]⟩ : ByteArray).toList == (⟨#[108, 101, 97, 118, 101]⟩ : ByteArray).toList) = true := by simp
  have e2 : ((⟨#[108, 101, 97, 118, 101]⟩ : ByteArray).toList == (⟨#[114, 101, 115, 116]⟩ : ByteArray).toList) = false := by
    rw [ByteArray.toList_eq, ByteArray.toList_eq]; rfl
  have e3 : ((⟨#[108, 101, 97, 118, 101]⟩ : ByteArray).toList == (⟨#[119, 97, 105, 116]⟩ : ByteArray).toList) = false := by
    rw [ByteArray.toList_eq, ByteArray.toList_eq]; rfl
  have e4 : ((⟨#[108, 101, 97, 118, 101]⟩ : ByteArray).toList == (⟨#[102, 108, 117, 115, 104]⟩ : ByteArray).toList) = false := by
    rw [ByteArray.toList_eq, ByteArray.toList_eq]; rfl
  have e5 : ((⟨#[108, 101, 97, 118, 101]⟩ : ByteArray).toList == (⟨#[114, 101, 97, 100]⟩ : ByteArray).toList) = false := by
    rw [ByteArray.toList_eq, ByteArray.toList_eq]; rfl
  have e6 : ((⟨#[108, 101, 97, 118, 101]⟩ : ByteArray).toList == (⟨#[112, 117, 116]⟩ : ByteArray).toList) = false := by
    rw [ByteArray.toList_eq, ByteArray.toList_eq]; rfl
  have e7 : ((⟨#[108, 101, 97, 118, 101]⟩ : ByteArray).toList == (⟨#[100, 114, 111, 112]⟩ : ByteArray).toList) = false := by
    rw [ByteArray.toList_eq, ByteArray.toList_eq]; rfl
  have e8 : ((⟨#[108, 101, 97, 118, 101]⟩ : ByteArray).toList == (⟨#[108, 97, 116, 101, 114]⟩ : ByteArray).toList) = false := by
    rw [ByteArray.toList_eq, ByteArray.toList_eq]; rfl
  have HS1 := Lib.hid hS1
  have Hq := Lib.hid hq
  have Hcall := Lib.hid hcall
  have Hcf := Lib.hid hcf
  have hbz : w.heap.size ≠ b := by have := lt_of_block hS; omega
  clear E HK hS hq hcf hS1 E1 qx hcall hl9
  go_enter Tryz.func90, Tryz.ntmps90
  go_wp2_with fail
  refine Hcall.out.mono ?_
  rintro e w2 ⟨rfl, rfl⟩
  go_wp2
  go_ret
  exact sop_bad 7 Hcf.out (by omega) rfl Hq.out.any
theorem sop_leave (E : ErrsAt w a) (HK : KindsW w) (hd : 1 ≤ d) (hd2 : d ≤ 1000) (hS : StAt w b ⟨d, r, wt, u⟩) :
    Calls Tryz.prog 90 #[.pointer (some ⟨b, 0, none⟩), .agg #[.string ⟨#[108, 101, 97, 118, 101]⟩, .int .i64 0]] w (SopPost a ⟨d, r, wt, u⟩ (kLeave, 0) b w) := by
  have hq := (Mod.refl noF w).alloc (.cells #[.string ⟨#[108, 101, 97, 118, 101]⟩, .int .i64 0] 88)
  have hcf : cfOp ⟨d, r, wt, u⟩ (kLeave, 0) = (0, ⟨d - 1, r, wt, u⟩) := by
    unfold cfOp
    have hm : memK kindsC ⟨#[108, 101, 97, 118, 101]⟩ = true := by decide +kernel
    simp [hm, kEnter, kLeave, kRest, kWait, kRead, kPut, kDrop, kLater, kFlush, show ¬ d = 0 by omega]
  have hS1 := hq.heap hS (fun e => e)
  have h0 := cell_of_heap hS1 0
  have h1 := cell_of_heap hS1 1
  have h2 := cell_of_heap hS1 2
  have h3 := cell_of_heap hS1 3
  have f0 := free_of_heap hS1 0
  have f1 := free_of_heap hS1 1
  have f2 := free_of_heap hS1 2
  have f3 := free_of_heap hS1 3
  replace h0 : (w.alloc (.cells #[.string ⟨#[108, 101, 97, 118, 101]⟩, .int .i64 0] 88)).cell? ⟨b, 0, none⟩ = some (.int .i64 ((d : Nat) : Int)) := h0
  replace h1 : (w.alloc (.cells #[.string ⟨#[108, 101, 97, 118, 101]⟩, .int .i64 0] 88)).cell? ⟨b, 1, none⟩ = some (.bool r) := h1
  replace h2 : (w.alloc (.cells #[.string ⟨#[108, 101, 97, 118, 101]⟩, .int .i64 0] 88)).cell? ⟨b, 2, none⟩ = some (.bool wt) := h2
  replace h3 : (w.alloc (.cells #[.string ⟨#[108, 101, 97, 118, 101]⟩, .int .i64 0] 88)).cell? ⟨b, 3, none⟩ = some (.bool u) := h3
  have E1 := E.keep hq
  obtain ⟨gk, off, cap, q0, qx⟩ := HK.keep hq
  have hcall := containsK2 (w.alloc (.cells #[.string ⟨#[108, 101, 97, 118, 101]⟩, .int .i64 0] 88)) gk off cap kindsC kLeave qx (by decide)
  rw [show memK kindsC kLeave = true by decide +kernel] at hcall
  have hl9 : kindsC.length = 9 := rfl
  rw [hl9] at hcall
  have v1 := E1.v1
  have v2 := E1.v2
  have v4 := E1.v4
  have v7 := E1.v7
  have e0 : ((⟨#[108, 101, 97, 118, 101]⟩ : ByteArray).toList == (⟨#[101, 110, 116, 101, 114]⟩ : ByteArray).toList) = false := by
    rw [ByteArray.toList_eq, ByteArray.toList_eq]; rfl
  have e1 : ((⟨#[108, 101, 97, 118, 101]⟩ : ByteArray).toList == (⟨#[108, 101, 97, 118, 101]⟩ : ByteArray).toList) = true := by simp
  have e2 : ((⟨#[108, 101, 97, 118, 101]⟩ : ByteArray).toList == (⟨#[114, 101, 115, 116]⟩ : ByteArray).toList) = false := by
    rw [ByteArray.toList_eq, ByteArray.toList_eq]; rfl
  have e3 : ((⟨#[108, 101, 97, 118, 101]⟩ : ByteArray).toList == (⟨#[119, 97, 105, 116]⟩ : ByteArray).toList) = false := by
    rw [ByteArray.toList_eq, ByteArray.toList_eq]; rfl
  have e4 : ((⟨#[108, 101, 97, 118, 101]⟩ : ByteArray).toList == (⟨#[102, 108, 117, 115, 104]⟩ : ByteArray).toList) = false := by
    rw [ByteArray.toList_eq, ByteArray.toList_eq]; rfl
  have e5 : ((⟨#[108, 101, 97, 118, 101]⟩ : ByteArray).toList == (⟨#[114, 101, 97, 100]⟩ : ByteArray).toList) = false := by
    rw [ByteArray.toList_eq, ByteArray.toList_eq]; rfl
  have e6 : ((⟨#[108, 101, 97, 118, 101]⟩ : ByteArray).toList == (⟨#[112, 117, 116]⟩ : ByteArray).toList) = false := by
    rw [ByteArray.toList_eq, ByteArray.toList_eq]; rfl
  have e7 : ((⟨#[108, 101, 97, 118, 101]⟩ : ByteArray).toList == (⟨#[100, 114, 111, 112]⟩ : ByteArray).toList) = false := by
    rw [ByteArray.toList_eq, ByteArray.toList_eq]; rfl
  have e8 : ((⟨#[108, 101, 97, 118, 101]⟩ : ByteArray).toList == (⟨#[108, 97, 116, 101, 114]⟩ : ByteArray).toList) = false := by
    rw [ByteArray.toList_eq, ByteArray.toList_eq]; rfl
  have d1 : ((d : Int) == 0) = false := by simp; omega
  have d2 : decide ((d : Int) = 0) = false := by simp; omega
  have HS1 := Lib.hid hS1
  have Hq := Lib.hid hq
  have Hcall := Lib.hid hcall
  have Hcf := Lib.hid hcf
  have hbz : w.heap.size ≠ b := by have := lt_of_block hS; omega
  clear E HK hS hq hcf hS1 E1 qx hcall hl9
  go_enter Tryz.func90, Tryz.ntmps90
  go_wp2_with fail
  refine Hcall.out.mono ?_
  rintro e w2 ⟨rfl, rfl⟩
  go_wp2
  go_ret
  refine sop_good Hcf.out ?_ ((show Qh.Mod (fun k => k = b) w _ from Hq.out.any).setCell (fun _ => rfl) _)
  unfold StAt
  rw [show (((d - 1 : Nat)) : Int) = (d : Int) - 1 by omega]; rw [Qh.heap_setCell_same (HS1.out) 0 _]; rfl
theorem sop_rest_d (E : ErrsAt w a) (HK : KindsW w) (hd : 1 ≤ d) (hS : StAt w b ⟨d, r, wt, u⟩) :
    Calls Tryz.prog 90 #[.pointer (some ⟨b, 0, none⟩), .agg #[.string ⟨#[114, 101, 115, 116]⟩, .int .i64 0]] w (SopPost a ⟨d, r, wt, u⟩ (kRest, 0) b w) := by
  have hq := (Mod.refl noF w).alloc (.cells #[.string ⟨#[114, 101, 115, 116]⟩, .int .i64 0] 88)
  have hcf : cfOp ⟨d, r, wt, u⟩ (kRest, 0) = (8, ⟨d, r, wt, u⟩) := by
    unfold cfOp
    have hm : memK kindsC ⟨#[114, 101, 115, 116]⟩ = true := by decide +kernel
    simp [hm, kEnter, kLeave, kRest, kWait, kRead, kPut, kDrop, kLater, kFlush, show ¬ d = 0 by omega]
  have hS1 := hq.heap hS (fun e => e)
  have h0 := cell_of_heap hS1 0
  have h1 := cell_of_heap hS1 1
  have h2 := cell_of_heap hS1 2
  have h3 := cell_of_heap hS1 3
  have f0 := free_of_heap hS1 0
  have f1 := free_of_heap hS1 1
  have f2 := free_of_heap hS1 2
  have f3 := free_of_heap hS1 3
  replace h0 : (w.alloc (.cells #[.string ⟨#[114, 101, 115, 116]⟩, .int .i64 0] 88)).cell? ⟨b, 0, none⟩ = some (.int .i64 ((d : Nat) : Int)) := h0
  replace h1 : (w.alloc (.cells #[.string ⟨#[114, 101, 115, 116]⟩, .int .i64 0] 88)).cell? ⟨b, 1, none⟩ = some (.bool r) := h1
  replace h2 : (w.alloc (.cells #[.string ⟨#[114, 101, 115, 116]⟩, .int .i64 0] 88)).cell? ⟨b, 2, none⟩ = some (.bool wt) := h2
  replace h3 : (w.alloc (.cells #[.string ⟨#[114, 101, 115, 116]⟩, .int .i64 0] 88)).cell? ⟨b, 3, none⟩ = some (.bool u) := h3
  have E1 := E.keep hq
  obtain ⟨gk, off, cap, q0, qx⟩ := HK.keep hq
  have hcall := containsK2 (w.alloc (.cells #[.string ⟨#[114, 101, 115, 116]⟩, .int .i64 0] 88)) gk off cap kindsC kRest qx (by decide)
  rw [show memK kindsC kRest = true by decide +kernel] at hcall
  have hl9 : kindsC.length = 9 := rfl
  rw [hl9] at hcall
  have v1 := E1.v1
  have v2 := E1.v2
  have v4 := E1.v4
  have v7 := E1.v7
  have e0 : ((⟨#[114, 101, 115, 116]⟩ : ByteArray).toList == (⟨#[101, 110, 116, 101, 114]⟩ : ByteArray).toList) = false := by
    rw [ByteArray.toList_eq, ByteArray.toList_eq]; rfl
  have e1 : ((⟨#[114, 101, 115, 116]⟩ : ByteArray).toList == (⟨#[108, 101, 97, 118, 101]⟩ : ByteArray).toList) = false := by
    rw [ByteArray.toList_eq, ByteArray.toList_eq]; rfl
  have e2 : ((⟨#[114, 101, 115, 116]⟩ : ByteArray).toList == (⟨#[114, 101, 115, 116]⟩ : ByteArray).toList) = true := by simp
  have e3 : ((⟨#[114, 101, 115, 116]⟩ : ByteArray).toList == (⟨#[119, 97, 105, 116]⟩ : ByteArray).toList) = false := by
    rw [ByteArray.toList_eq, ByteArray.toList_eq]; rfl
  have e4 : ((⟨#[114, 101, 115, 116]⟩ : ByteArray).toList == (⟨#[102, 108, 117, 115, 104]⟩ : ByteArray).toList) = false := by
    rw [ByteArray.toList_eq, ByteArray.toList_eq]; rfl
  have e5 : ((⟨#[114, 101, 115, 116]⟩ : ByteArray).toList == (⟨#[114, 101, 97, 100]⟩ : ByteArray).toList) = false := by
    rw [ByteArray.toList_eq, ByteArray.toList_eq]; rfl
  have e6 : ((⟨#[114, 101, 115, 116]⟩ : ByteArray).toList == (⟨#[112, 117, 116]⟩ : ByteArray).toList) = false := by
    rw [ByteArray.toList_eq, ByteArray.toList_eq]; rfl
  have e7 : ((⟨#[114, 101, 115, 116]⟩ : ByteArray).toList == (⟨#[100, 114, 111, 112]⟩ : ByteArray).toList) = false := by
    rw [ByteArray.toList_eq, ByteArray.toList_eq]; rfl
  have e8 : ((⟨#[114, 101, 115, 116]⟩ : ByteArray).toList == (⟨#[108, 97, 116, 101, 114]⟩ : ByteArray).toList) = false := by
    rw [ByteArray.toList_eq, ByteArray.toList_eq]; rfl
  have d1 : ((d : Int) == 0) = false := by simp; omega
  have d2 : decide ((d : Int) = 0) = false := by simp; omega
  have HS1 := Lib.hid hS1
  have Hq := Lib.hid hq
  have Hcall := Lib.hid hcall
  have Hcf := Lib.hid hcf
  have hbz : w.heap.size ≠ b := by have := lt_of_block hS; omega
  clear E HK hS hq hcf hS1 E1 qx hcall hl9
  go_enter Tryz.func90, Tryz.ntmps90
  go_wp2_with fail
  refine Hcall.out.mono ?_
  rintro e w2 ⟨rfl, rfl⟩
  go_wp2
  go_ret
  exact sop_bad 7 Hcf.out (by omega) rfl Hq.out.any
theorem sop_rest_t (E : ErrsAt w a) (HK : KindsW w) (hS : StAt w b ⟨0, r, true, u⟩) :
    Calls Tryz.prog 90 #[.pointer (some ⟨b, 0, none⟩), .agg #[.string ⟨#[114, 101, 115, 116]⟩, .int .i64 0]] w (SopPost a ⟨0, r, true, u⟩ (kRest, 0) b w) := by
  have hq := (Mod.refl noF w).alloc (.cells #[.string ⟨#[114, 101, 115, 116]⟩, .int .i64 0] 88)
  have hcf : cfOp ⟨0, r, true, u⟩ (kRest, 0) = (0, ⟨0, r, true, u⟩) := by
    unfold cfOp
    have hm : memK kindsC ⟨#[114, 101, 115, 116]⟩ = true := by decide +kernel
    simp [hm, kEnter, kLeave, kRest, kWait, kRead, kPut, kDrop, kLater, kFlush]
  have hS1 := hq.heap hS (fun e => e)
  have h0 := cell_of_heap hS1 0
  have h1 := cell_of_heap hS1 1
  have h2 := cell_of_heap hS1 2
  have h3 := cell_of_heap hS1 3
  have f0 := free_of_heap hS1 0
  have f1 := free_of_heap hS1 1
  have f2 := free_of_heap hS1 2
  have f3 := free_of_heap hS1 3
  replace h0 : (w.alloc (.cells #[.string ⟨#[114, 101, 115, 116]⟩, .int .i64 0] 88)).cell? ⟨b, 0, none⟩ = some (.int .i64 ((0 : Nat) : Int)) := h0
  replace h1 : (w.alloc (.cells #[.string ⟨#[114, 101, 115, 116]⟩, .int .i64 0] 88)).cell? ⟨b, 1, none⟩ = some (.bool r) := h1
  replace h2 : (w.alloc (.cells #[.string ⟨#[114, 101, 115, 116]⟩, .int .i64 0] 88)).cell? ⟨b, 2, none⟩ = some (.bool true) := h2
  replace h3 : (w.alloc (.cells #[.string ⟨#[114, 101, 115, 116]⟩, .int .i64 0] 88)).cell? ⟨b, 3, none⟩ = some (.bool u) := h3
  have E1 := E.keep hq
  obtain ⟨gk, off, cap, q0, qx⟩ := HK.keep hq
  have hcall := containsK2 (w.alloc (.cells #[.string ⟨#[114, 101, 115, 116]⟩, .int .i64 0] 88)) gk off cap kindsC kRest qx (by decide)
  rw [show memK kindsC kRest = true by decide +kernel] at hcall
  have hl9 : kindsC.length = 9 := rfl
  rw [hl9] at hcall
  have v1 := E1.v1
  have v2 := E1.v2
  have v4 := E1.v4
  have v7 := E1.v7
  have e0 : ((⟨#[114, 101, 115, 116]⟩ : ByteArray).toList == (⟨#[101, 110, 116, 101, 114]⟩ : ByteArray).toList) = false := by
    rw [ByteArray.toList_eq, ByteArray.toList_eq]; rfl
  have e1 : ((⟨#[114, 101, 115, 116]⟩ : ByteArray).toList == (⟨#[108, 101, 97, 118, 101]⟩ : ByteArray).toList) = false := by
    rw [ByteArray.toList_eq, ByteArray.toList_eq]; rfl
  have e2 : ((⟨#[114, 101, 115, 116]⟩ : ByteArray).toList == (⟨#[114, 101, 115, 116]⟩ : ByteArray).toList) = true := by simp
  have e3 : ((⟨#[114, 101, 115, 116]⟩ : ByteArray).toList == (⟨#[119, 97, 105, 116]⟩ : ByteArray).toList) = false := by
    rw [ByteArray.toList_eq, ByteArray.toList_eq]; rfl
  have e4 : ((⟨#[114, 101, 115, 116]⟩ : ByteArray).toList == (⟨#[102, 108, 117, 115, 104]⟩ : ByteArray).toList) = false := by
    rw [ByteArray.toList_eq, ByteArray.toList_eq]; rfl
  have e5 : ((⟨#[114, 101, 115, 116]⟩ : ByteArray).toList == (⟨#[114, 101, 97, 100]⟩ : ByteArray).toList) = false := by
    rw [ByteArray.toList_eq, ByteArray.toList_eq]; rfl
  have e6 : ((⟨#[114, 101, 115, 116]⟩ : ByteArray).toList == (⟨#[112, 117, 116]⟩ : ByteArray).toList) = false := by
    rw [ByteArray.toList_eq, ByteArray.toList_eq]; rfl
  have e7 : ((⟨#[114, 101, 115, 116]⟩ : ByteArray).toList == (⟨#[100, 114, 111, 112]⟩ : ByteArray).toList) = false := by
    rw [ByteArray.toList_eq, ByteArray.toList_eq]; rfl
  have e8 : ((⟨#[114, 101, 115, 116]⟩ : ByteArray).toList == (⟨#[108, 97, 116, 101, 114]⟩ : ByteArray).toList) = false := by
    rw [ByteArray.toList_eq, ByteArray.toList_eq]; rfl
  have HS1 := Lib.hid hS1
  have Hq := Lib.hid hq
  have Hcall := Lib.hid hcall
  have Hcf := Lib.hid hcf
  have hbz : w.heap.size ≠ b := by have := lt_of_block hS; omega
  clear E HK hS hq hcf hS1 E1 qx hcall hl9
  go_enter Tryz.func90, Tryz.ntmps90
  go_wp2_with fail
  refine Hcall.out.mono ?_
  rintro e w2 ⟨rfl, rfl⟩
  go_wp2
  go_ret
  refine sop_good Hcf.out ?_ ((show Qh.Mod (fun k => k = b) w _ from Hq.out.any).setCell (fun _ => rfl) _)
  unfold StAt
  rw [Qh.heap_setCell_same (HS1.out) 2 _]; rfl
theorem sop_rest_f (E : ErrsAt w a) (HK : KindsW w) (hS : StAt w b ⟨0, r, false, u⟩) :
    Calls Tryz.prog 90 #[.pointer (some ⟨b, 0, none⟩), .agg #[.string ⟨#[114, 101, 115, 116]⟩, .int .i64 0]] w (SopPost a ⟨0, r, false, u⟩ (kRest, 0) b w) := by
  have hq := (Mod.refl noF w).alloc (.cells #[.string ⟨#[114, 101, 115, 116]⟩, .int .i64 0] 88)
  have hcf : cfOp ⟨0, r, false, u⟩ (kRest, 0) = (0, ⟨0, r, false, u⟩) := by
    unfold cfOp
    have hm : memK kindsC ⟨#[114, 101, 115, 116]⟩ = true := by decide +kernel
    simp [hm, kEnter, kLeave, kRest, kWait, kRead, kPut, kDrop, kLater, kFlush]
  have hS1 := hq.heap hS (fun e => e)
  have h0 := cell_of_heap hS1 0
  have h1 := cell_of_heap hS1 1
  have h2 := cell_of_heap hS1 2
  have h3 := cell_of_heap hS1 3
  have f0 := free_of_heap hS1 0
  have f1 := free_of_heap hS1 1
  have f2 := free_of_heap hS1 2
  have f3 := free_of_heap hS1 3
  replace h0 : (w.alloc (.cells #[.string ⟨#[114, 101, 115, 116]⟩, .int .i64 0] 88)).cell? ⟨b, 0, none⟩ = some (.int .i64 ((0 : Nat) : Int)) := h0
  replace h1 : (w.alloc (.cells #[.string ⟨#[114, 101, 115, 116]⟩, .int .i64 0] 88)).cell? ⟨b, 1, none⟩ = some (.bool r) := h1
  replace h2 : (w.alloc (.cells #[.string ⟨#[114, 101, 115, 116]⟩, .int .i64 0] 88)).cell? ⟨b, 2, none⟩ = some (.bool false) := h2
  replace h3 : (w.alloc (.cells #[.string ⟨#[114, 101, 115, 116]⟩, .int .i64 0] 88)).cell? ⟨b, 3, none⟩ = some (.bool u) := h3
  have E1 := E.keep hq
  obtain ⟨gk, off, cap, q0, qx⟩ := HK.keep hq
  have hcall := containsK2 (w.alloc (.cells #[.string ⟨#[114, 101, 115, 116]⟩, .int .i64 0] 88)) gk off cap kindsC kRest qx (by decide)
  rw [show memK kindsC kRest = true by decide +kernel] at hcall
  have hl9 : kindsC.length = 9 := rfl
  rw [hl9] at hcall
  have v1 := E1.v1
  have v2 := E1.v2
  have v4 := E1.v4
  have v7 := E1.v7
  have e0 : ((⟨#[114, 101, 115, 116]⟩ : ByteArray).toList == (⟨#[101, 110, 116, 101, 114]⟩ : ByteArray).toList) = false := by
    rw [ByteArray.toList_eq, ByteArray.toList_eq]; rfl
  have e1 : ((⟨#[114, 101, 115, 116]⟩ : ByteArray).toList == (⟨#[108, 101, 97, 118, 101]⟩ : ByteArray).toList) = false := by
    rw [ByteArray.toList_eq, ByteArray.toList_eq]; rfl
  have e2 : ((⟨#[114, 101, 115, 116]⟩ : ByteArray).toList == (⟨#[114, 101, 115, 116]⟩ : ByteArray).toList) = true := by simp
  have e3 : ((⟨#[114, 101, 115, 116]⟩ : ByteArray).toList == (⟨#[119, 97, 105, 116]⟩ : ByteArray).toList) = false := by
    rw [ByteArray.toList_eq, ByteArray.toList_eq]; rfl
  have e4 : ((⟨#[114, 101, 115, 116]⟩ : ByteArray).toList == (⟨#[102, 108, 117, 115, 104]⟩ : ByteArray).toList) = false := by
    rw [ByteArray.toList_eq, ByteArray.toList_eq]; rfl
  have e5 : ((⟨#[114, 101, 115, 116]⟩ : ByteArray).toList == (⟨#[114, 101, 97, 100]⟩ : ByteArray).toList) = false := by
    rw [ByteArray.toList_eq, ByteArray.toList_eq]; rfl
  have e6 : ((⟨#[114, 101, 115, 116]⟩ : ByteArray).toList == (⟨#[112, 117, 116]⟩ : ByteArray).toList) = false := by
    rw [ByteArray.toList_eq, ByteArray.toList_eq]; rfl
  have e7 : ((⟨#[114, 101, 115, 116]⟩ : ByteArray).toList == (⟨#[100, 114, 111, 112]⟩ : ByteArray).toList) = false := by
    rw [ByteArray.toList_eq, ByteArray.toList_eq]; rfl
  have e8 : ((⟨#[114, 101, 115, 116]⟩ : ByteArray).toList == (⟨#[108, 97, 116, 101, 114]⟩ : ByteArray).toList) = false := by
    rw [ByteArray.toList_eq, ByteArray.toList_eq]; rfl
  have HS1 := Lib.hid hS1
  have Hq := Lib.hid hq
  have Hcall := Lib.hid hcall
  have Hcf := Lib.hid hcf
  have hbz : w.heap.size ≠ b := by have := lt_of_block hS; omega
  clear E HK hS hq hcf hS1 E1 qx hcall hl9
  go_enter Tryz.func90, Tryz.ntmps90
  go_wp2_with fail
  refine Hcall.out.mono ?_
  rintro e w2 ⟨rfl, rfl⟩
  go_wp2
  go_ret
  refine sop_good Hcf.out ?_ ((show Qh.Mod (fun k => k = b) w _ from Hq.out.any).setCell (fun _ => rfl) _)
  unfold StAt
  rw [Qh.heap_setCell_same (HS1.out) 2 _]; rfl
theorem sop_wait_d (E : ErrsAt w a) (HK : KindsW w) (hd : 1 ≤ d) (hS : StAt w b ⟨d, r, wt, u⟩) :
    Calls Tryz.prog 90 #[.pointer (some ⟨b, 0, none⟩), .agg #[.string ⟨#[119, 97, 105, 116]⟩, .int .i64 0]] w (SopPost a ⟨d, r, wt, u⟩ (kWait, 0) b w) := by
  have hq := (Mod.refl noF w).alloc (.cells #[.string ⟨#[119, 97, 105, 116]⟩, .int .i64 0] 88)
  have hcf : cfOp ⟨d, r, wt, u⟩ (kWait, 0) = (8, ⟨d, r, wt, u⟩) := by
    unfold cfOp
    have hm : memK kindsC ⟨#[119, 97, 105, 116]⟩ = true := by decide +kernel
    simp [hm, kEnter, kLeave, kRest, kWait, kRead, kPut, kDrop, kLater, kFlush, show ¬ d = 0 by omega]
  have hS1 := hq.heap hS (fun e => e)
  have h0 := cell_of_heap hS1 0
  have h1 := cell_of_heap hS1 1
  have h2 := cell_of_heap hS1 2
  have h3 := cell_of_heap hS1 3
  have f0 := free_of_heap hS1 0
  have f1 := free_of_heap hS1 1
  have f2 := free_of_heap hS1 2
  have f3 := free_of_heap hS1 3
  replace h0 : (w.alloc (.cells #[.string ⟨#[119, 97, 105, 116]⟩, .int .i64 0] 88)).cell? ⟨b, 0, none⟩ = some (.int .i64 ((d : Nat) : Int)) := h0
  replace h1 : (w.alloc (.cells #[.string ⟨#[119, 97, 105, 116]⟩, .int .i64 0] 88)).cell? ⟨b, 1, none⟩ = some (.bool r) := h1
  replace h2 : (w.alloc (.cells #[.string ⟨#[119, 97, 105, 116]⟩, .int .i64 0] 88)).cell? ⟨b, 2, none⟩ = some (.bool wt) := h2
  replace h3 : (w.alloc (.cells #[.string ⟨#[119, 97, 105, 116]⟩, .int .i64 0] 88)).cell? ⟨b, 3, none⟩ = some (.bool u) := h3
  have E1 := E.keep hq
  obtain ⟨gk, off, cap, q0, qx⟩ := HK.keep hq
  have hcall := containsK2 (w.alloc (.cells #[.string ⟨#[119, 97, 105, 116]⟩, .int .i64 0] 88)) gk off cap kindsC kWait qx (by decide)
  rw [show memK kindsC kWait = true by decide +kernel] at hcall
  have hl9 : kindsC.length = 9 := rfl
  rw [hl9] at hcall
  have v1 := E1.v1
  have v2 := E1.v2
  have v4 := E1.v4
  have v7 := E1.v7
  have e0 : ((⟨#[119, 97, 105, 116]⟩ : ByteArray).toList == (⟨#[101, 110, 116, 101, 114]⟩ : ByteArray).toList) = false := by
    rw [ByteArray.toList_eq, ByteArray.toList_eq]; rfl
  have e1 : ((⟨#[119, 97, 105, 116]⟩ : ByteArray).toList == (⟨#[108, 101, 97, 118, 101]⟩ : ByteArray).toList) = false := by
    rw [ByteArray.toList_eq, ByteArray.toList_eq]; rfl
  have e2 : ((⟨#[119, 97, 105, 116]⟩ : ByteArray).toList == (⟨#[114, 101, 115, 116]⟩ : ByteArray).toList) = false := by
    rw [ByteArray.toList_eq, ByteArray.toList_eq]; rfl
  have e3 : ((⟨#[119, 97, 105, 116]⟩ : ByteArray).toList == (⟨#[119, 97, 105, 116]⟩ : ByteArray).toList) = true := by simp
  have e4 : ((⟨#[119, 97, 105, 116]⟩ : ByteArray).toList == (⟨#[102, 108, 117, 115, 104]⟩ : ByteArray).toList) = false := by
    rw [ByteArray.toList_eq, ByteArray.toList_eq]; rfl
  have e5 : ((⟨#[119, 97, 105, 116]⟩ : ByteArray).toList == (⟨#[114, 101, 97, 100]⟩ : ByteArray).toList) = false := by
    rw [ByteArray.toList_eq, ByteArray.toList_eq]; rfl
  have e6 : ((⟨#[119, 97, 105, 116]⟩ : ByteArray).toList == (⟨#[112, 117, 116]⟩ : ByteArray).toList) = false := by
    rw [ByteArray.toList_eq, ByteArray.toList_eq]; rfl
  have e7 : ((⟨#[119, 97, 105, 116]⟩ : ByteArray).toList == (⟨#[100, 114, 111, 112]⟩ : ByteArray).toList) = false := by
    rw [ByteArray.toList_eq, ByteArray.toList_eq]; rfl
  have e8 : ((⟨#[119, 97, 105, 116]⟩ : ByteArray).toList == (⟨#[108, 97, 116, 101, 114]⟩ : ByteArray).toList) = false := by
    rw [ByteArray.toList_eq, ByteArray.toList_eq]; rfl
  have d1 : ((d : Int) == 0) = false := by simp; omega
  have d2 : decide ((d : Int) = 0) = false := by simp; omega
  have HS1 := Lib.hid hS1
  have Hq := Lib.hid hq
  have Hcall := Lib.hid hcall
  have Hcf := Lib.hid hcf
  have hbz : w.heap.size ≠ b := by have := lt_of_block hS; omega
  clear E HK hS hq hcf hS1 E1 qx hcall hl9
  go_enter Tryz.func90, Tryz.ntmps90
  go_wp2_with fail
  refine Hcall.out.mono ?_
  rintro e w2 ⟨rfl, rfl⟩
  go_wp2
  go_ret
  exact sop_bad 7 Hcf.out (by omega) rfl Hq.out.any
theorem sop_wait_t (E : ErrsAt w a) (HK : KindsW w) (hS : StAt w b ⟨0, r, true, u⟩) :
    Calls Tryz.prog 90 #[.pointer (some ⟨b, 0, none⟩), .agg #[.string ⟨#[119, 97, 105, 116]⟩, .int .i64 0]] w (SopPost a ⟨0, r, true, u⟩ (kWait, 0) b w) := by
  have hq := (Mod.refl noF w).alloc (.cells #[.string ⟨#[119, 97, 105, 116]⟩, .int .i64 0] 88)
  have hcf : cfOp ⟨0, r, true, u⟩ (kWait, 0) = (0, ⟨0, r, true, u⟩) := by
    unfold cfOp
    have hm : memK kindsC ⟨#[119, 97, 105, 116]⟩ = true := by decide +kernel
    simp [hm, kEnter, kLeave, kRest, kWait, kRead, kPut, kDrop, kLater, kFlush]
  have hS1 := hq.heap hS (fun e => e)
  have h0 := cell_of_heap hS1 0
  have h1 := cell_of_heap hS1 1
  have h2 := cell_of_heap hS1 2
  have h3 := cell_of_heap hS1 3
  have f0 := free_of_heap hS1 0
  have f1 := free_of_heap hS1 1
  have f2 := free_of_heap hS1 2
  have f3 := free_of_heap hS1 3
  replace h0 : (w.alloc (.cells #[.string ⟨#[119, 97, 105, 116]⟩, .int .i64 0] 88)).cell? ⟨b, 0, none⟩ = some (.int .i64 ((0 : Nat) : Int)) := h0
  replace h1 : (w.alloc (.cells #[.string ⟨#[119, 97, 105, 116]⟩, .int .i64 0] 88)).cell? ⟨b, 1, none⟩ = some (.bool r) := h1
  replace h2 : (w.alloc (.cells #[.string ⟨#[119, 97, 105, 116]⟩, .int .i64 0] 88)).cell? ⟨b, 2, none⟩ = some (.bool true) := h2
  replace h3 : (w.alloc (.cells #[.string ⟨#[119, 97, 105, 116]⟩, .int .i64 0] 88)).cell? ⟨b, 3, none⟩ = some (.bool u) := h3
  have E1 := E.keep hq
  obtain ⟨gk, off, cap, q0, qx⟩ := HK.keep hq
  have hcall := containsK2 (w.alloc (.cells #[.string ⟨#[119, 97, 105, 116]⟩, .int .i64 0] 88)) gk off cap kindsC kWait qx (by decide)
  rw [show memK kindsC kWait = true by decide +kernel] at hcall
  have hl9 : kindsC.length = 9 := rfl
  rw [hl9] at hcall
  have v1 := E1.v1
  have v2 := E1.v2
  have v4 := E1.v4
  have v7 := E1.v7
  have e0 : ((⟨#[119, 97, 105, 116]⟩ : ByteArray).toList == (⟨#[101, 110, 116, 101, 114]⟩ : ByteArray).toList) = false := by
    rw [ByteArray.toList_eq, ByteArray.toList_eq]; rfl
  have e1 : ((⟨#[119, 97, 105, 116]⟩ : ByteArray).toList == (⟨#[108, 101, 97, 118, 101]⟩ : ByteArray).toList) = false := by
    rw [ByteArray.toList_eq, ByteArray.toList_eq]; rfl
  have e2 : ((⟨#[119, 97, 105, 116]⟩ : ByteArray).toList == (⟨#[114, 101, 115, 116]⟩ : ByteArray).toList) = false := by
    rw [ByteArray.toList_eq, ByteArray.toList_eq]; rfl
  have e3 : ((⟨#[119, 97, 105, 116]⟩ : ByteArray).toList == (⟨#[119, 97, 105, 116]⟩ : ByteArray).toList) = true := by simp
  have e4 : ((⟨#[119, 97, 105, 116]⟩ : ByteArray).toList == (⟨#[102, 108, 117, 115, 104]⟩ : ByteArray).toList) = false := by
    rw [ByteArray.toList_eq, ByteArray.toList_eq]; rfl
  have e5 : ((⟨#[119, 97, 105, 116]⟩ : ByteArray).toList == (⟨#[114, 101, 97, 100]⟩ : ByteArray).toList) = false := by
    rw [ByteArray.toList_eq, ByteArray.toList_eq]; rfl
  have e6 : ((⟨#[119, 97, 105, 116]⟩ : ByteArray).toList == (⟨#[112, 117, 116]⟩ : ByteArray).toList) = false := by
    rw [ByteArray.toList_eq, ByteArray.toList_eq]; rfl
  have e7 : ((⟨#[119, 97, 105, 116]⟩ : ByteArray).toList == (⟨#[100, 114, 111, 112]⟩ : ByteArray).toList) = false := by
    rw [ByteArray.toList_eq, ByteArray.toList_eq]; rfl
  have e8 : ((⟨#[119, 97, 105, 116]⟩ : ByteArray).toList == (⟨#[108, 97, 116, 101, 114]⟩ : ByteArray).toList) = false := by
    rw [ByteArray.toList_eq, ByteArray.toList_eq]; rfl
  have HS1 := Lib.hid hS1
  have Hq := Lib.hid hq
  have Hcall := Lib.hid hcall
  have Hcf := Lib.hid hcf
  have hbz : w.heap.size ≠ b := by have := lt_of_block hS; omega
  clear E HK hS hq hcf hS1 E1 qx hcall hl9
  go_enter Tryz.func90, Tryz.ntmps90
  go_wp2_with fail
  refine Hcall.out.mono ?_
  rintro e w2 ⟨rfl, rfl⟩
  go_wp2
  go_ret
  refine sop_good Hcf.out ?_ ((show Qh.Mod (fun k => k = b) w _ from Hq.out.any).setCell (fun _ => rfl) _)
  unfold StAt
  rw [Qh.heap_setCell_same (HS1.out) 2 _]; rfl
theorem sop_wait_f (E : ErrsAt w a) (HK : KindsW w) (hS : StAt w b ⟨0, r, false, u⟩) :
    Calls Tryz.prog 90 #[.pointer (some ⟨b, 0, none⟩), .agg #[.string ⟨#[119, 97, 105, 116]⟩, .int .i64 0]] w (SopPost a ⟨0, r, false, u⟩ (kWait, 0) b w) := by
  have hq := (Mod.refl noF w).alloc (.cells #[.string ⟨#[119, 97, 105, 116]⟩, .int .i64 0] 88)
  have hcf : cfOp ⟨0, r, false, u⟩ (kWait, 0) = (0, ⟨0, r, true, u⟩) := by
    unfold cfOp
    have hm : memK kindsC ⟨#[119, 97, 105, 116]⟩ = true := by decide +kernel
    simp [hm, kEnter, kLeave, kRest, kWait, kRead, kPut, kDrop, kLater, kFlush]
  have hS1 := hq.heap hS (fun e => e)
  have h0 := cell_of_heap hS1 0
  have h1 := cell_of_heap hS1 1
  have h2 := cell_of_heap hS1 2
  have h3 := cell_of_heap hS1 3
  have f0 := free_of_heap hS1 0
  have f1 := free_of_heap hS1 1
  have f2 := free_of_heap hS1 2
  have f3 := free_of_heap hS1 3
  replace h0 : (w.alloc (.cells #[.string ⟨#[119, 97, 105, 116]⟩, .int .i64 0] 88)).cell? ⟨b, 0, none⟩ = some (.int .i64 ((0 : Nat) : Int)) := h0
  replace h1 : (w.alloc (.cells #[.string ⟨#[119, 97, 105, 116]⟩, .int .i64 0] 88)).cell? ⟨b, 1, none⟩ = some (.bool r) := h1
  replace h2 : (w.alloc (.cells #[.string ⟨#[119, 97, 105, 116]⟩, .int .i64 0] 88)).cell? ⟨b, 2, none⟩ = some (.bool false) := h2
  replace h3 : (w.alloc (.cells #[.string ⟨#[119, 97, 105, 116]⟩, .int .i64 0] 88)).cell? ⟨b, 3, none⟩ = some (.bool u) := h3
  have E1 := E.keep hq
  obtain ⟨gk, off, cap, q0, qx⟩ := HK.keep hq
  have hcall := containsK2 (w.alloc (.cells #[.string ⟨#[119, 97, 105, 116]⟩, .int .i64 0] 88)) gk off cap kindsC kWait qx (by decide)
  rw [show memK kindsC kWait = true by decide +kernel] at hcall
  have hl9 : kindsC.length = 9 := rfl
  rw [hl9] at hcall
  have v1 := E1.v1
  have v2 := E1.v2
  have v4 := E1.v4
  have v7 := E1.v7
  have e0 : ((⟨#[119, 97, 105, 116]⟩ : ByteArray).toList == (⟨#[101, 110, 116, 101, 114]⟩ : ByteArray).toList) = false := by
    rw [ByteArray.toList_eq, ByteArray.toList_eq]; rfl
  have e1 : ((⟨#[119, 97, 105, 116]⟩ : ByteArray).toList == (⟨#[108, 101, 97, 118, 101]⟩ : ByteArray).toList) = false := by
    rw [ByteArray.toList_eq, ByteArray.toList_eq]; rfl
  have e2 : ((⟨#[119, 97, 105, 116]⟩ : ByteArray).toList == (⟨#[114, 101, 115, 116]⟩ : ByteArray).toList) = false := by
    rw [ByteArray.toList_eq, ByteArray.toList_eq]; rfl
  have e3 : ((⟨#[119, 97, 105, 116]⟩ : ByteArray).toList == (⟨#[119, 97, 105, 116]⟩ : ByteArray).toList) = true := by simp
  have e4 : ((⟨#[119, 97, 105, 116]⟩ : ByteArray).toList == (⟨#[102, 108, 117, 115, 104]⟩ : ByteArray).toList) = false := by
    rw [ByteArray.toList_eq, ByteArray.toList_eq]; rfl
  have e5 : ((⟨#[119, 97, 105, 116]⟩ : ByteArray).toList == (⟨#[114, 101, 97, 100]⟩ : ByteArray).toList) = false := by
    rw [ByteArray.toList_eq, ByteArray.toList_eq]; rfl
  have e6 : ((⟨#[119, 97, 105, 116]⟩ : ByteArray).toList == (⟨#[112, 117, 116]⟩ : ByteArray).toList) = false := by
    rw [ByteArray.toList_eq, ByteArray.toList_eq]; rfl
  have e7 : ((⟨#[119, 97, 105, 116]⟩ : ByteArray).toList == (⟨#[100, 114, 111, 112]⟩ : ByteArray).toList) = false := by
    rw [ByteArray.toList_eq, ByteArray.toList_eq]; rfl
  have e8 : ((⟨#[119, 97, 105, 116]⟩ : ByteArray).toList == (⟨#[108, 97, 116, 101, 114]⟩ : ByteArray).toList) = false := by
    rw [ByteArray.toList_eq, ByteArray.toList_eq]; rfl
  have HS1 := Lib.hid hS1
  have Hq := Lib.hid hq
  have Hcall := Lib.hid hcall
  have Hcf := Lib.hid hcf
  have hbz : w.heap.size ≠ b := by have := lt_of_block hS; omega
  clear E HK hS hq hcf hS1 E1 qx hcall hl9
  go_enter Tryz.func90, Tryz.ntmps90
  go_wp2_with fail
  refine Hcall.out.mono ?_
  rintro e w2 ⟨rfl, rfl⟩
  go_wp2
  go_ret
  refine sop_good Hcf.out ?_ ((show Qh.Mod (fun k => k = b) w _ from Hq.out.any).setCell (fun _ => rfl) _)
  unfold StAt
  rw [Qh.heap_setCell_same (HS1.out) 2 _]; rfl
theorem sop_flush_d (E : ErrsAt w a) (HK : KindsW w) (hd : 1 ≤ d) (hS : StAt w b ⟨d, r, wt, u⟩) :
    Calls Tryz.prog 90 #[.pointer (some ⟨b, 0, none⟩), .agg #[.string ⟨#[102, 108, 117, 115, 104]⟩, .int .i64 0]] w (SopPost a ⟨d, r, wt, u⟩ (kFlush, 0) b w) := by
  have hq := (Mod.refl noF w).alloc (.cells #[.string ⟨#[102, 108, 117, 115, 104]⟩, .int .i64 0] 88)
  have hcf : cfOp ⟨d, r, wt, u⟩ (kFlush, 0) = (8, ⟨d, r, wt, u⟩) := by
    unfold cfOp
    have hm : memK kindsC ⟨#[102, 108, 117, 115, 104]⟩ = true := by decide +kernel
    simp [hm, kEnter, kLeave, kRest, kWait, kRead, kPut, kDrop, kLater, kFlush, show ¬ d = 0 by omega]
  have hS1 := hq.heap hS (fun e => e)
  have h0 := cell_of_heap hS1 0
  have h1 := cell_of_heap hS1 1
  have h2 := cell_of_heap hS1 2
  have h3 := cell_of_heap hS1 3
  have f0 := free_of_heap hS1 0
  have f1 := free_of_heap hS1 1
  have f2 := free_of_heap hS1 2
  have f3 := free_of_heap hS1 3
  replace h0 : (w.alloc (.cells #[.string ⟨#[102, 108, 117, 115, 104]⟩, .int .i64 0] 88)).cell? ⟨b, 0, none⟩ = some (.int .i64 ((d : Nat) : Int)) := h0
  replace h1 : (w.alloc (.cells #[.string ⟨#[102, 108, 117, 115, 104]⟩, .int .i64 0] 88)).cell? ⟨b, 1, none⟩ = some (.bool r) := h1
  replace h2 : (w.alloc (.cells #[.string ⟨#[102, 108, 117, 115, 104]⟩, .int .i64 0] 88)).cell? ⟨b, 2, none⟩ = some (.bool wt) := h2
  replace h3 : (w.alloc (.cells #[.string ⟨#[102, 108, 117, 115, 104]⟩, .int .i64 0] 88)).cell? ⟨b, 3, none⟩ = some (.bool u) := h3
  have E1 := E.keep hq
  obtain ⟨gk, off, cap, q0, qx⟩ := HK.keep hq
  have hcall := containsK2 (w.alloc (.cells #[.string ⟨#[102, 108, 117, 115, 104]⟩, .int .i64 0] 88)) gk off cap kindsC kFlush qx (by decide)
  rw [show memK kindsC kFlush = true by decide +kernel] at hcall
  have hl9 : kindsC.length = 9 := rfl
  rw [hl9] at hcall
  have v1 := E1.v1
  have v2 := E1.v2
  have v4 := E1.v4
  have v7 := E1.v7
  have e0 : ((⟨#[102, 108, 117, 115, 104]⟩ : ByteArray).toList == (⟨#[101, 110, 116, 101, 114]⟩ : ByteArray).toList) = false := by
    rw [ByteArray.toList_eq, ByteArray.toList_eq]; rfl
  have e1 : ((⟨#[102, 108, 117, 115, 104]⟩ : ByteArray).toList == (⟨#[108, 101, 97, 118, 101]⟩ : ByteArray).toList) = false := by
    rw [ByteArray.toList_eq, ByteArray.toList_eq]; rfl
  have e2 : ((⟨#[102, 108, 117, 115, 104]⟩ : ByteArray).toList == (⟨#[114, 101, 115, 116]⟩ : ByteArray).toList) = false := by
    rw [ByteArray.toList_eq, ByteArray.toList_eq]; rfl
  have e3 : ((⟨#[102, 108, 117, 115, 104]⟩ : ByteArray).toList == (⟨#[119, 97, 105, 116]⟩ : ByteArray).toList) = false := by
    rw [ByteArray.toList_eq, ByteArray.toList_eq]; rfl
  have e4 : ((⟨#[102, 108, 117, 115, 104]⟩ : ByteArray).toList == (⟨#[102, 108, 117, 115, 104]⟩ : ByteArray).toList) = true := by simp
  have e5 : ((⟨#[102, 108, 117, 115, 104]⟩ : ByteArray).toList == (⟨#[114, 101, 97, 100]⟩ : ByteArray).toList) = false := by
    rw [ByteArray.toList_eq, ByteArray.toList_eq]; rfl
  have e6 : ((⟨#[102, 108, 117, 115, 104]⟩ : ByteArray).toList == (⟨#[112, 117, 116]⟩ : ByteArray).toList) = false := by
    rw [ByteArray.toList_eq, ByteArray.toList_eq]; rfl
  have e7 : ((⟨#[102, 108, 117, 115, 104]⟩ : ByteArray).toList == (⟨#[100, 114, 111, 112]⟩ : ByteArray).toList) = false := by
    rw [ByteArray.toList_eq, ByteArray.toList_eq]; rfl
  have e8 : ((⟨#[102, 108, 117, 115, 104]⟩ : ByteArray).toList == (⟨#[108, 97, 116, 101, 114]⟩ : ByteArray).toList) = false := by
    rw [ByteArray.toList_eq, ByteArray.toList_eq]; rfl
  have d1 : ((d : Int) == 0) = false := by simp; omega
  have d2 : decide ((d : Int) = 0) = false := by simp; omega
  have HS1 := Lib.hid hS1
  have Hq := Lib.hid hq
  have Hcall := Lib.hid hcall
  have Hcf := Lib.hid hcf
  have hbz : w.heap.size ≠ b := by have := lt_of_block hS; omega
  clear E HK hS hq hcf hS1 E1 qx hcall hl9
  go_enter Tryz.func90, Tryz.ntmps90
  go_wp2_with fail
  refine Hcall.out.mono ?_
  rintro e w2 ⟨rfl, rfl⟩
  go_wp2
  go_ret
  exact sop_bad 7 Hcf.out (by omega) rfl Hq.out.any
theorem sop_flush_t (E : ErrsAt w a) (HK : KindsW w) (hS : StAt w b ⟨0, r, true, u⟩) :
    Calls Tryz.prog 90 #[.pointer (some ⟨b, 0, none⟩), .agg #[.string ⟨#[102, 108, 117, 115, 104]⟩, .int .i64 0]] w (SopPost a ⟨0, r, true, u⟩ (kFlush, 0) b w) := by
  have hq := (Mod.refl noF w).alloc (.cells #[.string ⟨#[102, 108, 117, 115, 104]⟩, .int .i64 0] 88)
  have hcf : cfOp ⟨0, r, true, u⟩ (kFlush, 0) = (0, ⟨0, r, true, u⟩) := by
    unfold cfOp
    have hm : memK kindsC ⟨#[102, 108, 117, 115, 104]⟩ = true := by decide +kernel
    simp [hm, kEnter, kLeave, kRest, kWait, kRead, kPut, kDrop, kLater, kFlush]
  have hS1 := hq.heap hS (fun e => e)
  have h0 := cell_of_heap hS1 0
  have h1 := cell_of_heap hS1 1
  have h2 := cell_of_heap hS1 2
  have h3 := cell_of_heap hS1 3
  have f0 := free_of_heap hS1 0
  have f1 := free_of_heap hS1 1
  have f2 := free_of_heap hS1 2
  have f3 := free_of_heap hS1 3
  replace h0 : (w.alloc (.cells #[.string ⟨#[102, 108, 117, 115, 104]⟩, .int .i64 0] 88)).cell? ⟨b, 0, none⟩ = some (.int .i64 ((0 : Nat) : Int)) := h0
  replace h1 : (w.alloc (.cells #[.string ⟨#[102, 108, 117, 115, 104]⟩, .int .i64 0] 88)).cell? ⟨b, 1, none⟩ = some (.bool r) := h1
  replace h2 : (w.alloc (.cells #[.string ⟨#[102, 108, 117, 115, 104]⟩, .int .i64 0] 88)).cell? ⟨b, 2, none⟩ = some (.bool true) := h2
  replace h3 : (w.alloc (.cells #[.string ⟨#[102, 108, 117, 115, 104]⟩, .int .i64 0] 88)).cell? ⟨b, 3, none⟩ = some (.bool u) := h3
  have E1 := E.keep hq
  obtain ⟨gk, off, cap, q0, qx⟩ := HK.keep hq
  have hcall := containsK2 (w.alloc (.cells #[.string ⟨#[102, 108, 117, 115, 104]⟩, .int .i64 0] 88)) gk off cap kindsC kFlush qx (by decide)
  rw [show memK kindsC kFlush = true by decide +kernel] at hcall
  have hl9 : kindsC.length = 9 := rfl
  rw [hl9] at hcall
  have v1 := E1.v1
  have v2 := E1.v2
  have v4 := E1.v4
  have v7 := E1.v7
  have e0 : ((⟨#[102, 108, 117, 115, 104]⟩ : ByteArray).toList == (⟨#[101, 110, 116, 101, 114]⟩ : ByteArray).toList) = false := by
    rw [ByteArray.toList_eq, ByteArray.toList_eq]; rfl
  have e1 : ((⟨#[102, 108, 117, 115, 104]⟩ : ByteArray).toList == (⟨#[108, 101, 97, 118, 101]⟩ : ByteArray).toList) = false := by
    rw [ByteArray.toList_eq, ByteArray.toList_eq]; rfl
  have e2 : ((⟨#[102, 108, 117, 115, 104]⟩ : ByteArray).toList == (⟨#[114, 101, 115, 116]⟩ : ByteArray).toList) = false := by
    rw [ByteArray.toList_eq, ByteArray.toList_eq]; rfl
  have e3 : ((⟨#[102, 108, 117, 115, 104]⟩ : ByteArray).toList == (⟨#[119, 97, 105, 116]⟩ : ByteArray).toList) = false := by
    rw [ByteArray.toList_eq, ByteArray.toList_eq]; rfl
  have e4 : ((⟨#[102, 108, 117, 115, 104]⟩ : ByteArray).toList == (⟨#[102, 108, 117, 115, 104]⟩ : ByteArray).toList) = true := by simp
  have e5 : ((⟨#[102, 108, 117, 115, 104]⟩ : ByteArray).toList == (⟨#[114, 101, 97, 100]⟩ : ByteArray).toList) = false := by
    rw [ByteArray.toList_eq, ByteArray.toList_eq]; rfl
  have e6 : ((⟨#[102, 108, 117, 115, 104]⟩ : ByteArray).toList == (⟨#[112, 117, 116]⟩ : ByteArray).toList) = false := by
    rw [ByteArray.toList_eq, ByteArray.toList_eq]; rfl
  have e7 : ((⟨#[102, 108, 117, 115, 104]⟩ : ByteArray).toList == (⟨#[100, 114, 111, 112]⟩ : ByteArray).toList) = false := by
    rw [ByteArray.toList_eq, ByteArray.toList_eq]; rfl
  have e8 : ((⟨#[102, 108, 117, 115, 104]⟩ : ByteArray).toList == (⟨#[108, 97, 116, 101, 114]⟩ : ByteArray).toList) = false := by
    rw [ByteArray.toList_eq, ByteArray.toList_eq]; rfl
  have HS1 := Lib.hid hS1
  have Hq := Lib.hid hq
  have Hcall := Lib.hid hcall
  have Hcf := Lib.hid hcf
  have hbz : w.heap.size ≠ b := by have := lt_of_block hS; omega
  clear E HK hS hq hcf hS1 E1 qx hcall hl9
  go_enter Tryz.func90, Tryz.ntmps90
  go_wp2_with fail
  refine Hcall.out.mono ?_
  rintro e w2 ⟨rfl, rfl⟩
  go_wp2
  go_ret
  refine sop_good Hcf.out ?_ ((show Qh.Mod (fun k => k = b) w _ from Hq.out.any).setCell (fun _ => rfl) _)
  unfold StAt
  rw [Qh.heap_setCell_same (HS1.out) 2 _]; rfl
theorem sop_flush_f (E : ErrsAt w a) (HK : KindsW w) (hS : StAt w b ⟨0, r, false, u⟩) :
    Calls Tryz.prog 90 #[.pointer (some ⟨b, 0, none⟩), .agg #[.string ⟨#[102, 108, 117, 115, 104]⟩, .int .i64 0]] w (SopPost a ⟨0, r, false, u⟩ (kFlush, 0) b w) := by
  have hq := (Mod.refl noF w).alloc (.cells #[.string ⟨#[102, 108, 117, 115, 104]⟩, .int .i64 0] 88)
  have hcf : cfOp ⟨0, r, false, u⟩ (kFlush, 0) = (0, ⟨0, r, true, u⟩) := by
    unfold cfOp
    have hm : memK kindsC ⟨#[102, 108, 117, 115, 104]⟩ = true := by decide +kernel
    simp [hm, kEnter, kLeave, kRest, kWait, kRead, kPut, kDrop, kLater, kFlush]
  have hS1 := hq.heap hS (fun e => e)
  have h0 := cell_of_heap hS1 0
  have h1 := cell_of_heap hS1 1
  have h2 := cell_of_heap hS1 2
  have h3 := cell_of_heap hS1 3
  have f0 := free_of_heap hS1 0
  have f1 := free_of_heap hS1 1
  have f2 := free_of_heap hS1 2
  have f3 := free_of_heap hS1 3
  replace h0 : (w.alloc (.cells #[.string ⟨#[102, 108, 117, 115, 104]⟩, .int .i64 0] 88)).cell? ⟨b, 0, none⟩ = some (.int .i64 ((0 : Nat) : Int)) := h0
  replace h1 : (w.alloc (.cells #[.string ⟨#[102, 108, 117, 115, 104]⟩, .int .i64 0] 88)).cell? ⟨b, 1, none⟩ = some (.bool r) := h1
  replace h2 : (w.alloc (.cells #[.string ⟨#[102, 108, 117, 115, 104]⟩, .int .i64 0] 88)).cell? ⟨b, 2, none⟩ = some (.bool false) := h2
  replace h3 : (w.alloc (.cells #[.string ⟨#[102, 108, 117, 115, 104]⟩, .int .i64 0] 88)).cell? ⟨b, 3, none⟩ = some (.bool u) := h3
  have E1 := E.keep hq
  obtain ⟨gk, off, cap, q0, qx⟩ := HK.keep hq
  have hcall := containsK2 (w.alloc (.cells #[.string ⟨#[102, 108, 117, 115, 104]⟩, .int .i64 0] 88)) gk off cap kindsC kFlush qx (by decide)
  rw [show memK kindsC kFlush = true by decide +kernel] at hcall
  have hl9 : kindsC.length = 9 := rfl
  rw [hl9] at hcall
  have v1 := E1.v1
  have v2 := E1.v2
  have v4 := E1.v4
  have v7 := E1.v7
  have e0 : ((⟨#[102, 108, 117, 115, 104]⟩ : ByteArray).toList == (⟨#[101, 110, 116, 101, 114]⟩ : ByteArray).toList) = false := by
    rw [ByteArray.toList_eq, ByteArray.toList_eq]; rfl
  have e1 : ((⟨#[102, 108, 117, 115, 104]⟩ : ByteArray).toList == (⟨#[108, 101, 97, 118, 101]⟩ : ByteArray).toList) = false := by
    rw [ByteArray.toList_eq, ByteArray.toList_eq]; rfl
  have e2 : ((⟨#[102, 108, 117, 115, 104]⟩ : ByteArray).toList == (⟨#[114, 101, 115, 116]⟩ : ByteArray).toList) = false := by
    rw [ByteArray.toList_eq, ByteArray.toList_eq]; rfl
  have e3 : ((⟨#[102, 108, 117, 115, 104]⟩ : ByteArray).toList == (⟨#[119, 97, 105, 116]⟩ : ByteArray).toList) = false := by
    rw [ByteArray.toList_eq, ByteArray.toList_eq]; rfl
  have e4 : ((⟨#[102, 108, 117, 115, 104]⟩ : ByteArray).toList == (⟨#[102, 108, 117, 115, 104]⟩ : ByteArray).toList) = true := by simp
  have e5 : ((⟨#[102, 108, 117, 115, 104]⟩ : ByteArray).toList == (⟨#[114, 101, 97, 100]⟩ : ByteArray).toList) = false := by
    rw [ByteArray.toList_eq, ByteArray.toList_eq]; rfl
  have e6 : ((⟨#[102, 108, 117, 115, 104]⟩ : ByteArray).toList == (⟨#[112, 117, 116]⟩ : ByteArray).toList) = false := by
    rw [ByteArray.toList_eq, ByteArray.toList_eq]; rfl
  have e7 : ((⟨#[102, 108, 117, 115, 104]⟩ : ByteArray).toList == (⟨#[100, 114, 111, 112]⟩ : ByteArray).toList) = false := by
    rw [ByteArray.toList_eq, ByteArray.toList_eq]; rfl
  have e8 : ((⟨#[102, 108, 117, 115, 104]⟩ : ByteArray).toList == (⟨#[108, 97, 116, 101, 114]⟩ : ByteArray).toList) = false := by
    rw [ByteArray.toList_eq, ByteArray.toList_eq]; rfl
  have HS1 := Lib.hid hS1
  have Hq := Lib.hid hq
  have Hcall := Lib.hid hcall
  have Hcf := Lib.hid hcf
  have hbz : w.heap.size ≠ b := by have := lt_of_block hS; omega
  clear E HK hS hq hcf hS1 E1 qx hcall hl9
  go_enter Tryz.func90, Tryz.ntmps90
  go_wp2_with fail
  refine Hcall.out.mono ?_
  rintro e w2 ⟨rfl, rfl⟩
  go_wp2
  go_ret
  refine sop_good Hcf.out ?_ ((show Qh.Mod (fun k => k = b) w _ from Hq.out.any).setCell (fun _ => rfl) _)
  unfold StAt
  rw [Qh.heap_setCell_same (HS1.out) 2 _]; rfl
theorem sop_read_0 (E : ErrsAt w a) (HK : KindsW w) (hS : StAt w b ⟨0, r, wt, u⟩) :
    Calls Tryz.prog 90 #[.pointer (some ⟨b, 0, none⟩), .agg #[.string ⟨#[114, 101, 97, 100]⟩, .int .i64 0]] w (SopPost a ⟨0, r, wt, u⟩ (kRead, 0) b w) := by
  have hq := (Mod.refl noF w).alloc (.cells #[.string ⟨#[114, 101, 97, 100]⟩, .int .i64 0] 88)
  have hcf : cfOp ⟨0, r, wt, u⟩ (kRead, 0) = (8, ⟨0, r, wt, u⟩) := by
    unfold cfOp
    have hm : memK kindsC ⟨#[114, 101, 97, 100]⟩ = true := by decide +kernel
    simp [hm, kEnter, kLeave, kRest, kWait, kRead, kPut, kDrop, kLater, kFlush]
  have hS1 := hq.heap hS (fun e => e)
  have h0 := cell_of_heap hS1 0
  have h1 := cell_of_heap hS1 1
  have h2 := cell_of_heap hS1 2
  have h3 := cell_of_heap hS1 3
  have f0 := free_of_heap hS1 0
  have f1 := free_of_heap hS1 1
  have f2 := free_of_heap hS1 2
  have f3 := free_of_heap hS1 3
  replace h0 : (w.alloc (.cells #[.string ⟨#[114, 101, 97, 100]⟩, .int .i64 0] 88)).cell? ⟨b, 0, none⟩ = some (.int .i64 ((0 : Nat) : Int)) := h0
  replace h1 : (w.alloc (.cells #[.string ⟨#[114, 101, 97, 100]⟩, .int .i64 0] 88)).cell? ⟨b, 1, none⟩ = some (.bool r) := h1
  replace h2 : (w.alloc (.cells #[.string ⟨#[114, 101, 97, 100]⟩, .int .i64 0] 88)).cell? ⟨b, 2, none⟩ = some (.bool wt) := h2
  replace h3 : (w.alloc (.cells #[.string ⟨#[114, 101, 97, 100]⟩, .int .i64 0] 88)).cell? ⟨b, 3, none⟩ = some (.bool u) := h3
  have E1 := E.keep hq
  obtain ⟨gk, off, cap, q0, qx⟩ := HK.keep hq
  have hcall := containsK2 (w.alloc (.cells #[.string ⟨#[114, 101, 97, 100]⟩, .int .i64 0] 88)) gk off cap kindsC kRead qx (by decide)
  rw [show memK kindsC kRead = true by decide +kernel] at hcall
  have hl9 : kindsC.length = 9 := rfl
  rw [hl9] at hcall
  have v1 := E1.v1
  have v2 := E1.v2
  have v4 := E1.v4
  have v7 := E1.v7
  have e0 : ((⟨#[114, 101, 97, 100]⟩ : ByteArray).toList == (⟨#[101, 110, 116, 101, 114]⟩ : ByteArray).toList) = false := by
    rw [ByteArray.toList_eq, ByteArray.toList_eq]; rfl
  have e1 : ((⟨#[114, 101, 97, 100]⟩ : ByteArray).toList == (⟨#[108, 101, 97, 118, 101]⟩ : ByteArray).toList) = false := by
    rw [ByteArray.toList_eq, ByteArray.toList_eq]; rfl
  have e2 : ((⟨#[114, 101, 97, 100]⟩ : ByteArray).toList == (⟨#[114, 101, 115, 116]⟩ : ByteArray).toList) = false := by
    rw [ByteArray.toList_eq, ByteArray.toList_eq]; rfl
  have e3 : ((⟨#[114, 101, 97, 100]⟩ : ByteArray).toList == (⟨#[119, 97, 105, 116]⟩ : ByteArray).toList) = false := by
    rw [ByteArray.toList_eq, ByteArray.toList_eq]; rfl
  have e4 : ((⟨#[114, 101, 97, 100]⟩ : ByteArray).toList == (⟨#[102, 108, 117, 115, 104]⟩ : ByteArray).toList) = false := by
    rw [ByteArray.toList_eq, ByteArray.toList_eq]; rfl
  have e5 : ((⟨#[114, 101, 97, 100]⟩ : ByteArray).toList == (⟨#[114, 101, 97, 100]⟩ : ByteArray).toList) = true := by simp
  have e6 : ((⟨#[114, 101, 97, 100]⟩ : ByteArray).toList == (⟨#[112, 117, 116]⟩ : ByteArray).toList) = false := by
    rw [ByteArray.toList_eq, ByteArray.toList_eq]; rfl
  have e7 : ((⟨#[114, 101, 97, 100]⟩ : ByteArray).toList == (⟨#[100, 114, 111, 112]⟩ : ByteArray).toList) = false := by
    rw [ByteArray.toList_eq, ByteArray.toList_eq]; rfl
  have e8 : ((⟨#[114, 101, 97, 100]⟩ : ByteArray).toList == (⟨#[108, 97, 116, 101, 114]⟩ : ByteArray).toList) = false := by
    rw [ByteArray.toList_eq, ByteArray.toList_eq]; rfl
  have HS1 := Lib.hid hS1
  have Hq := Lib.hid hq
  have Hcall := Lib.hid hcall
  have Hcf := Lib.hid hcf
  have hbz : w.heap.size ≠ b := by have := lt_of_block hS; omega
  clear E HK hS hq hcf hS1 E1 qx hcall hl9
  go_enter Tryz.func90, Tryz.ntmps90
  go_wp2_with fail
  refine Hcall.out.mono ?_
  rintro e w2 ⟨rfl, rfl⟩
  go_wp2
  go_ret
  exact sop_bad 7 Hcf.out (by omega) rfl Hq.out.any
theorem sop_read (E : ErrsAt w a) (HK : KindsW w) (hd : 1 ≤ d) (hS : StAt w b ⟨d, r, wt, u⟩) :
    Calls Tryz.prog 90 #[.pointer (some ⟨b, 0, none⟩), .agg #[.string ⟨#[114, 101, 97, 100]⟩, .int .i64 0]] w (SopPost a ⟨d, r, wt, u⟩ (kRead, 0) b w) := by
  have hq := (Mod.refl noF w).alloc (.cells #[.string ⟨#[114, 101, 97, 100]⟩, .int .i64 0] 88)
  have hcf : cfOp ⟨d, r, wt, u⟩ (kRead, 0) = (0, ⟨d, r, wt, u⟩) := by
    unfold cfOp
    have hm : memK kindsC ⟨#[114, 101, 97, 100]⟩ = true := by decide +kernel
    simp [hm, kEnter, kLeave, kRest, kWait, kRead, kPut, kDrop, kLater, kFlush, show ¬ d = 0 by omega]
  have hS1 := hq.heap hS (fun e => e)
  have h0 := cell_of_heap hS1 0
  have h1 := cell_of_heap hS1 1
  have h2 := cell_of_heap hS1 2
  have h3 := cell_of_heap hS1 3
  have f0 := free_of_heap hS1 0
  have f1 := free_of_heap hS1 1
  have f2 := free_of_heap hS1 2
  have f3 := free_of_heap hS1 3
  replace h0 : (w.alloc (.cells #[.string ⟨#[114, 101, 97, 100]⟩, .int .i64 0] 88)).cell? ⟨b, 0, none⟩ = some (.int .i64 ((d : Nat) : Int)) := h0
  replace h1 : (w.alloc (.cells #[.string ⟨#[114, 101, 97, 100]⟩, .int .i64 0] 88)).cell? ⟨b, 1, none⟩ = some (.bool r) := h1
  replace h2 : (w.alloc (.cells #[.string ⟨#[114, 101, 97, 100]⟩, .int .i64 0] 88)).cell? ⟨b, 2, none⟩ = some (.bool wt) := h2
  replace h3 : (w.alloc (.cells #[.string ⟨#[114, 101, 97, 100]⟩, .int .i64 0] 88)).cell? ⟨b, 3, none⟩ = some (.bool u) := h3
  have E1 := E.keep hq
  obtain ⟨gk, off, cap, q0, qx⟩ := HK.keep hq
  have hcall := containsK2 (w.alloc (.cells #[.string ⟨#[114, 101, 97, 100]⟩, .int .i64 0] 88)) gk off cap kindsC kRead qx (by decide)
  rw [show memK kindsC kRead = true by decide +kernel] at hcall
  have hl9 : kindsC.length = 9 := rfl
  rw [hl9] at hcall
  have v1 := E1.v1
  have v2 := E1.v2
  have v4 := E1.v4
  have v7 := E1.v7
  have e0 : ((⟨#[114, 101, 97, 100]⟩ : ByteArray).toList == (⟨#[101, 110, 116, 101, 114]⟩ : ByteArray).toList) = false := by
    rw [ByteArray.toList_eq, ByteArray.toList_eq]; rfl
  have e1 : ((⟨#[114, 101, 97, 100]⟩ : ByteArray).toList == (⟨#[108, 101, 97, 118, 101]⟩ : ByteArray).toList) = false := by
    rw [ByteArray.toList_eq, ByteArray.toList_eq]; rfl
  have e2 : ((⟨#[114, 101, 97, 100]⟩ : ByteArray).toList == (⟨#[114, 101, 115, 116]⟩ : ByteArray).toList) = false := by
    rw [ByteArray.toList_eq, ByteArray.toList_eq]; rfl
  have e3 : ((⟨#[114, 101, 97, 100]⟩ : ByteArray).toList == (⟨#[119, 97, 105, 116]⟩ : ByteArray).toList) = false := by
    rw [ByteArray.toList_eq, ByteArray.toList_eq]; rfl
  have e4 : ((⟨#[114, 101, 97, 100]⟩ : ByteArray).toList == (⟨#[102, 108, 117, 115, 104]⟩ : ByteArray).toList) = false := by
    rw [ByteArray.toList_eq, ByteArray.toList_eq]; rfl
  have e5 : ((⟨#[114, 101, 97, 100]⟩ : ByteArray).toList == (⟨#[114, 101, 97, 100]⟩ : ByteArray).toList) = true := by simp
  have e6 : ((⟨#[114, 101, 97, 100]⟩ : ByteArray).toList == (⟨#[112, 117, 116]⟩ : ByteArray).toList) = false := by
    rw [ByteArray.toList_eq, ByteArray.toList_eq]; rfl
  have e7 : ((⟨#[114, 101, 97, 100]⟩ : ByteArray).toList == (⟨#[100, 114, 111, 112]⟩ : ByteArray).toList) = false := by
    rw [ByteArray.toList_eq, ByteArray.toList_eq]; rfl
  have e8 : ((⟨#[114, 101, 97, 100]⟩ : ByteArray).toList == (⟨#[108, 97, 116, 101, 114]⟩ : ByteArray).toList) = false := by
    rw [ByteArray.toList_eq, ByteArray.toList_eq]; rfl
  have d1 : ((d : Int) == 0) = false := by simp; omega
  have d2 : decide ((d : Int) = 0) = false := by simp; omega
  have HS1 := Lib.hid hS1
  have Hq := Lib.hid hq
  have Hcall := Lib.hid hcall
  have Hcf := Lib.hid hcf
  have hbz : w.heap.size ≠ b := by have := lt_of_block hS; omega
  clear E HK hS hq hcf hS1 E1 qx hcall hl9
  go_enter Tryz.func90, Tryz.ntmps90
  go_wp2_with fail
  refine Hcall.out.mono ?_
  rintro e w2 ⟨rfl, rfl⟩
  go_wp2
  go_ret
  exact sop_good Hcf.out HS1.out Hq.out.any
theorem sop_put_lo (E : ErrsAt w a) (HK : KindsW w) (hn : n < 1) (hS : StAt w b ⟨d, r, wt, u⟩) :
    Calls Tryz.prog 90 #[.pointer (some ⟨b, 0, none⟩), .agg #[.string ⟨#[112, 117, 116]⟩, .int .i64 n]] w (SopPost a ⟨d, r, wt, u⟩ (kPut, n) b w) := by
  have hq := (Mod.refl noF w).alloc (.cells #[.string ⟨#[112, 117, 116]⟩, .int .i64 n] 88)
  have hcf : cfOp ⟨d, r, wt, u⟩ (kPut, n) = (2, ⟨d, r, wt, u⟩) := by
    unfold cfOp
    have hm : memK kindsC ⟨#[112, 117, 116]⟩ = true := by decide +kernel
    simp [hm, kEnter, kLeave, kRest, kWait, kRead, kPut, kDrop, kLater, kFlush, hn]
  have hS1 := hq.heap hS (fun e => e)
  have h0 := cell_of_heap hS1 0
  have h1 := cell_of_heap hS1 1
  have h2 := cell_of_heap hS1 2
  have h3 := cell_of_heap hS1 3
  have f0 := free_of_heap hS1 0
  have f1 := free_of_heap hS1 1
  have f2 := free_of_heap hS1 2
  have f3 := free_of_heap hS1 3
  replace h0 : (w.alloc (.cells #[.string ⟨#[112, 117, 116]⟩, .int .i64 n] 88)).cell? ⟨b, 0, none⟩ = some (.int .i64 ((d : Nat) : Int)) := h0
  replace h1 : (w.alloc (.cells #[.string ⟨#[112, 117, 116]⟩, .int .i64 n] 88)).cell? ⟨b, 1, none⟩ = some (.bool r) := h1
  replace h2 : (w.alloc (.cells #[.string ⟨#[112, 117, 116]⟩, .int .i64 n] 88)).cell? ⟨b, 2, none⟩ = some (.bool wt) := h2
  replace h3 : (w.alloc (.cells #[.string ⟨#[112, 117, 116]⟩, .int .i64 n] 88)).cell? ⟨b, 3, none⟩ = some (.bool u) := h3
  have E1 := E.keep hq
  obtain ⟨gk, off, cap, q0, qx⟩ := HK.keep hq
  have hcall := containsK2 (w.alloc (.cells #[.string ⟨#[112, 117, 116]⟩, .int .i64 n] 88)) gk off cap kindsC kPut qx (by decide)
  rw [show memK kindsC kPut = true by decide +kernel] at hcall
  have hl9 : kindsC.length = 9 := rfl
  rw [hl9] at hcall
  have v1 := E1.v1
  have v2 := E1.v2
  have v4 := E1.v4
  have v7 := E1.v7
  have e0 : ((⟨#[112, 117, 116]⟩ : ByteArray).toList == (⟨#[101, 110, 116, 101, 114]⟩ : ByteArray).toList) = false := by
    rw [ByteArray.toList_eq, ByteArray.toList_eq]; rfl
  have e1 : ((⟨#[112, 117, 116]⟩ : ByteArray).toList == (⟨#[108, 101, 97, 118, 101]⟩ : ByteArray).toList) = false := by
    rw [ByteArray.toList_eq, ByteArray.toList_eq]; rfl
  have e2 : ((⟨#[112, 117, 116]⟩ : ByteArray).toList == (⟨#[114, 101, 115, 116]⟩ : ByteArray).toList) = false := by
    rw [ByteArray.toList_eq, ByteArray.toList_eq]; rfl
  have e3 : ((⟨#[112, 117, 116]⟩ : ByteArray).toList == (⟨#[119, 97, 105, 116]⟩ : ByteArray).toList) = false := by
    rw [ByteArray.toList_eq, ByteArray.toList_eq]; rfl
  have e4 : ((⟨#[112, 117, 116]⟩ : ByteArray).toList == (⟨#[102, 108, 117, 115, 104]⟩ : ByteArray).toList) = false := by
    rw [ByteArray.toList_eq, ByteArray.toList_eq]; rfl
  have e5 : ((⟨#[112, 117, 116]⟩ : ByteArray).toList == (⟨#[114, 101, 97, 100]⟩ : ByteArray).toList) = false := by
    rw [ByteArray.toList_eq, ByteArray.toList_eq]; rfl
  have e6 : ((⟨#[112, 117, 116]⟩ : ByteArray).toList == (⟨#[112, 117, 116]⟩ : ByteArray).toList) = true := by simp
  have e7 : ((⟨#[112, 117, 116]⟩ : ByteArray).toList == (⟨#[100, 114, 111, 112]⟩ : ByteArray).toList) = false := by
    rw [ByteArray.toList_eq, ByteArray.toList_eq]; rfl
  have e8 : ((⟨#[112, 117, 116]⟩ : ByteArray).toList == (⟨#[108, 97, 116, 101, 114]⟩ : ByteArray).toList) = false := by
    rw [ByteArray.toList_eq, ByteArray.toList_eq]; rfl
  have n1 : decide (n < 1) = true := by simpa using hn
  have HS1 := Lib.hid hS1
  have Hq := Lib.hid hq
  have Hcall := Lib.hid hcall
  have Hcf := Lib.hid hcf
  have hbz : w.heap.size ≠ b := by have := lt_of_block hS; omega
  clear E HK hS hq hcf hS1 E1 qx hcall hl9
  go_enter Tryz.func90, Tryz.ntmps90
  go_wp2_with fail
  refine Hcall.out.mono ?_
  rintro e w2 ⟨rfl, rfl⟩
  go_wp2
  go_ret
  exact sop_bad 1 Hcf.out (by omega) rfl Hq.out.any
theorem sop_put_hi (E : ErrsAt w a) (HK : KindsW w) (hn : 1000 < n) (hS : StAt w b ⟨d, r, wt, u⟩) :
    Calls Tryz.prog 90 #[.pointer (some ⟨b, 0, none⟩), .agg #[.string ⟨#[112, 117, 116]⟩, .int .i64 n]] w (SopPost a ⟨d, r, wt, u⟩ (kPut, n) b w) := by
  have hq := (Mod.refl noF w).alloc (.cells #[.string ⟨#[112, 117, 116]⟩, .int .i64 n] 88)
  have hcf : cfOp ⟨d, r, wt, u⟩ (kPut, n) = (2, ⟨d, r, wt, u⟩) := by
    unfold cfOp
    have hm : memK kindsC ⟨#[112, 117, 116]⟩ = true := by decide +kernel
    simp [hm, kEnter, kLeave, kRest, kWait, kRead, kPut, kDrop, kLater, kFlush, hn, show ¬ n < 1 by omega]
  have hS1 := hq.heap hS (fun e => e)
  have h0 := cell_of_heap hS1 0
  have h1 := cell_of_heap hS1 1
  have h2 := cell_of_heap hS1 2
  have h3 := cell_of_heap hS1 3
  have f0 := free_of_heap hS1 0
  have f1 := free_of_heap hS1 1
  have f2 := free_of_heap hS1 2
  have f3 := free_of_heap hS1 3
  replace h0 : (w.alloc (.cells #[.string ⟨#[112, 117, 116]⟩, .int .i64 n] 88)).cell? ⟨b, 0, none⟩ = some (.int .i64 ((d : Nat) : Int)) := h0
  replace h1 : (w.alloc (.cells #[.string ⟨#[112, 117, 116]⟩, .int .i64 n] 88)).cell? ⟨b, 1, none⟩ = some (.bool r) := h1
  replace h2 : (w.alloc (.cells #[.string ⟨#[112, 117, 116]⟩, .int .i64 n] 88)).cell? ⟨b, 2, none⟩ = some (.bool wt) := h2
  replace h3 : (w.alloc (.cells #[.string ⟨#[112, 117, 116]⟩, .int .i64 n] 88)).cell? ⟨b, 3, none⟩ = some (.bool u) := h3
  have E1 := E.keep hq
  obtain ⟨gk, off, cap, q0, qx⟩ := HK.keep hq
  have hcall := containsK2 (w.alloc (.cells #[.string ⟨#[112, 117, 116]⟩, .int .i64 n] 88)) gk off cap kindsC kPut qx (by decide)
  rw [show memK kindsC kPut = true by decide +kernel] at hcall
  have hl9 : kindsC.length = 9 := rfl
  rw [hl9] at hcall
  have v1 := E1.v1
  have v2 := E1.v2
  have v4 := E1.v4
  have v7 := E1.v7
  have e0 : ((⟨#[112, 117, 116]⟩ : ByteArray).toList == (⟨#[101, 110, 116, 101, 114]⟩ : ByteArray).toList) = false := by
    rw [ByteArray.toList_eq, ByteArray.toList_eq]; rfl
  have e1 : ((⟨#[112, 117, 116]⟩ : ByteArray).toList == (⟨#[108, 101, 97, 118, 101]⟩ : ByteArray).toList) = false := by
    rw [ByteArray.toList_eq, ByteArray.toList_eq]; rfl
  have e2 : ((⟨#[112, 117, 116]⟩ : ByteArray).toList == (⟨#[114, 101, 115, 116]⟩ : ByteArray).toList) = false := by
    rw [ByteArray.toList_eq, ByteArray.toList_eq]; rfl
  have e3 : ((⟨#[112, 117, 116]⟩ : ByteArray).toList == (⟨#[119, 97, 105, 116]⟩ : ByteArray).toList) = false := by
    rw [ByteArray.toList_eq, ByteArray.toList_eq]; rfl
  have e4 : ((⟨#[112, 117, 116]⟩ : ByteArray).toList == (⟨#[102, 108, 117, 115, 104]⟩ : ByteArray).toList) = false := by
    rw [ByteArray.toList_eq, ByteArray.toList_eq]; rfl
  have e5 : ((⟨#[112, 117, 116]⟩ : ByteArray).toList == (⟨#[114, 101, 97, 100]⟩ : ByteArray).toList) = false := by
    rw [ByteArray.toList_eq, ByteArray.toList_eq]; rfl
  have e6 : ((⟨#[112, 117, 116]⟩ : ByteArray).toList == (⟨#[112, 117, 116]⟩ : ByteArray).toList) = true := by simp
  have e7 : ((⟨#[112, 117, 116]⟩ : ByteArray).toList == (⟨#[100, 114, 111, 112]⟩ : ByteArray).toList) = false := by
    rw [ByteArray.toList_eq, ByteArray.toList_eq]; rfl
  have e8 : ((⟨#[112, 117, 116]⟩ : ByteArray).toList == (⟨#[108, 97, 116, 101, 114]⟩ : ByteArray).toList) = false := by
    rw [ByteArray.toList_eq, ByteArray.toList_eq]; rfl
  have n1 : decide (n < 1) = false := by simp; omega
  have n2 : decide (1000 < n) = true := by simpa using hn
  have HS1 := Lib.hid hS1
  have Hq := Lib.hid hq
  have Hcall := Lib.hid hcall
  have Hcf := Lib.hid hcf
  have hbz : w.heap.size ≠ b := by have := lt_of_block hS; omega
  clear E HK hS hq hcf hS1 E1 qx hcall hl9
  go_enter Tryz.func90, Tryz.ntmps90
  go_wp2_with fail
  refine Hcall.out.mono ?_
  rintro e w2 ⟨rfl, rfl⟩
  go_wp2
  go_ret
  exact sop_bad 1 Hcf.out (by omega) rfl Hq.out.any
theorem sop_put_d (E : ErrsAt w a) (HK : KindsW w) (hn : 1 ≤ n) (hn2 : n ≤ 1000) (hd : 1 ≤ d) (hS : StAt w b ⟨d, r, wt, u⟩) :
    Calls Tryz.prog 90 #[.pointer (some ⟨b, 0, none⟩), .agg #[.string ⟨#[112, 117, 116]⟩, .int .i64 n]] w (SopPost a ⟨d, r, wt, u⟩ (kPut, n) b w) := by
  have hq := (Mod.refl noF w).alloc (.cells #[.string ⟨#[112, 117, 116]⟩, .int .i64 n] 88)
  have hcf : cfOp ⟨d, r, wt, u⟩ (kPut, n) = (8, ⟨d, r, wt, u⟩) := by
    unfold cfOp
    have hm : memK kindsC ⟨#[112, 117, 116]⟩ = true := by decide +kernel
    simp [hm, kEnter, kLeave, kRest, kWait, kRead, kPut, kDrop, kLater, kFlush, show ¬ n < 1 by omega, show ¬ 1000 < n by omega, show ¬ d = 0 by omega]
  have hS1 := hq.heap hS (fun e => e)
  have h0 := cell_of_heap hS1 0
  have h1 := cell_of_heap hS1 1
  have h2 := cell_of_heap hS1 2
  have h3 := cell_of_heap hS1 3
  have f0 := free_of_heap hS1 0
  have f1 := free_of_heap hS1 1
  have f2 := free_of_heap hS1 2
  have f3 := free_of_heap hS1 3
  replace h0 : (w.alloc (.cells #[.string ⟨#[112, 117, 116]⟩, .int .i64 n] 88)).cell? ⟨b, 0, none⟩ = some (.int .i64 ((d : Nat) : Int)) := h0
  replace h1 : (w.alloc (.cells #[.string ⟨#[112, 117, 116]⟩, .int .i64 n] 88)).cell? ⟨b, 1, none⟩ = some (.bool r) := h1
  replace h2 : (w.alloc (.cells #[.string ⟨#[112, 117, 116]⟩, .int .i64 n] 88)).cell? ⟨b, 2, none⟩ = some (.bool wt) := h2
  replace h3 : (w.alloc (.cells #[.string ⟨#[112, 117, 116]⟩, .int .i64 n] 88)).cell? ⟨b, 3, none⟩ = some (.bool u) := h3
  have E1 := E.keep hq
  obtain ⟨gk, off, cap, q0, qx⟩ := HK.keep hq
  have hcall := containsK2 (w.alloc (.cells #[.string ⟨#[112, 117, 116]⟩, .int .i64 n] 88)) gk off cap kindsC kPut qx (by decide)
  rw [show memK kindsC kPut = true by decide +kernel] at hcall
  have hl9 : kindsC.length = 9 := rfl
  rw [hl9] at hcall
  have v1 := E1.v1
  have v2 := E1.v2
  have v4 := E1.v4
  have v7 := E1.v7
  have e0 : ((⟨#[112, 117, 116]⟩ : ByteArray).toList == (⟨#[101, 110, 116, 101, 114]⟩ : ByteArray).toList) = false := by
    rw [ByteArray.toList_eq, ByteArray.toList_eq]; rfl
  have e1 : ((⟨#[112, 117, 116]⟩ : ByteArray).toList == (⟨#[108, 101, 97, 118, 101]⟩ : ByteArray).toList) = false := by
    rw [ByteArray.toList_eq, ByteArray.toList_eq]; rfl
  have e2 : ((⟨#[112, 117, 116]⟩ : ByteArray).toList == (⟨#[114, 101, 115, 116]⟩ : ByteArray).toList) = false := by
    rw [ByteArray.toList_eq, ByteArray.toList_eq]; rfl
  have e3 : ((⟨#[112, 117, 116]⟩ : ByteArray).toList == (⟨#[119, 97, 105, 116]⟩ : ByteArray).toList) = false := by
    rw [ByteArray.toList_eq, ByteArray.toList_eq]; rfl
  have e4 : ((⟨#[112, 117, 116]⟩ : ByteArray).toList == (⟨#[102, 108, 117, 115, 104]⟩ : ByteArray).toList) = false := by
    rw [ByteArray.toList_eq, ByteArray.toList_eq]; rfl
  have e5 : ((⟨#[112, 117, 116]⟩ : ByteArray).toList == (⟨#[114, 101, 97, 100]⟩ : ByteArray).toList) = false := by
    rw [ByteArray.toList_eq, ByteArray.toList_eq]; rfl
  have e6 : ((⟨#[112, 117, 116]⟩ : ByteArray).toList == (⟨#[112, 117, 116]⟩ : ByteArray).toList) = true := by simp
  have e7 : ((⟨#[112, 117, 116]⟩ : ByteArray).toList == (⟨#[100, 114, 111, 112]⟩ : ByteArray).toList) = false := by
    rw [ByteArray.toList_eq, ByteArray.toList_eq]; rfl
  have e8 : ((⟨#[112, 117, 116]⟩ : ByteArray).toList == (⟨#[108, 97, 116, 101, 114]⟩ : ByteArray).toList) = false := by
    rw [ByteArray.toList_eq, ByteArray.toList_eq]; rfl
  have n1 : decide (n < 1) = false := by simp; omega
  have n2 : decide (1000 < n) = false := by simp; omega
  have d1 : ((d : Int) == 0) = false := by simp; omega
  have d2 : decide ((d : Int) = 0) = false := by simp; omega
  have HS1 := Lib.hid hS1
  have Hq := Lib.hid hq
  have Hcall := Lib.hid hcall
  have Hcf := Lib.hid hcf
  have hbz : w.heap.size ≠ b := by have := lt_of_block hS; omega
  clear E HK hS hq hcf hS1 E1 qx hcall hl9
  go_enter Tryz.func90, Tryz.ntmps90
  go_wp2_with fail
  refine Hcall.out.mono ?_
  rintro e w2 ⟨rfl, rfl⟩
  go_wp2
  go_ret
  exact sop_bad 7 Hcf.out (by omega) rfl Hq.out.any
theorem sop_put_r (E : ErrsAt w a) (HK : KindsW w) (hn : 1 ≤ n) (hn2 : n ≤ 1000) (hS : StAt w b ⟨0, true, wt, u⟩) :
    Calls Tryz.prog 90 #[.pointer (some ⟨b, 0, none⟩), .agg #[.string ⟨#[112, 117, 116]⟩, .int .i64 n]] w (SopPost a ⟨0, true, wt, u⟩ (kPut, n) b w) := by
  have hq := (Mod.refl noF w).alloc (.cells #[.string ⟨#[112, 117, 116]⟩, .int .i64 n] 88)
  have hcf : cfOp ⟨0, true, wt, u⟩ (kPut, n) = (8, ⟨0, true, wt, u⟩) := by
    unfold cfOp
    have hm : memK kindsC ⟨#[112, 117, 116]⟩ = true := by decide +kernel
    simp [hm, kEnter, kLeave, kRest, kWait, kRead, kPut, kDrop, kLater, kFlush, show ¬ n < 1 by omega, show ¬ 1000 < n by omega]
  have hS1 := hq.heap hS (fun e => e)
  have h0 := cell_of_heap hS1 0
  have h1 := cell_of_heap hS1 1
  have h2 := cell_of_heap hS1 2
  have h3 := cell_of_heap hS1 3
  have f0 := free_of_heap hS1 0
  have f1 := free_of_heap hS1 1
  have f2 := free_of_heap hS1 2
  have f3 := free_of_heap hS1 3
  replace h0 : (w.alloc (.cells #[.string ⟨#[112, 117, 116]⟩, .int .i64 n] 88)).cell? ⟨b, 0, none⟩ = some (.int .i64 ((0 : Nat) : Int)) := h0
  replace h1 : (w.alloc (.cells #[.string ⟨#[112, 117, 116]⟩, .int .i64 n] 88)).cell? ⟨b, 1, none⟩ = some (.bool true) := h1
  replace h2 : (w.alloc (.cells #[.string ⟨#[112, 117, 116]⟩, .int .i64 n] 88)).cell? ⟨b, 2, none⟩ = some (.bool wt) := h2
  replace h3 : (w.alloc (.cells #[.string ⟨#[112, 117, 116]⟩, .int .i64 n] 88)).cell? ⟨b, 3, none⟩ = some (.bool u) := h3
  have E1 := E.keep hq
  obtain ⟨gk, off, cap, q0, qx⟩ := HK.keep hq
  have hcall := containsK2 (w.alloc (.cells #[.string ⟨#[112, 117, 116]⟩, .int .i64 n] 88)) gk off cap kindsC kPut qx (by decide)
  rw [show memK kindsC kPut = true by decide +kernel] at hcall
  have hl9 : kindsC.length = 9 := rfl
  rw [hl9] at hcall
  have v1 := E1.v1
  have v2 := E1.v2
  have v4 := E1.v4
  have v7 := E1.v7
  have e0 : ((⟨#[112, 117, 116]⟩ : ByteArray).toList == (⟨#[101, 110, 116, 101, 114]⟩ : ByteArray).toList) = false := by
    rw [ByteArray.toList_eq, ByteArray.toList_eq]; rfl
  have e1 : ((⟨#[112, 117, 116]⟩ : ByteArray).toList == (⟨#[108, 101, 97, 118, 101]⟩ : ByteArray).toList) = false := by
    rw [ByteArray.toList_eq, ByteArray.toList_eq]; rfl
  have e2 : ((⟨#[112, 117, 116]⟩ : ByteArray).toList == (⟨#[114, 101, 115, 116]⟩ : ByteArray).toList) = false := by
    rw [ByteArray.toList_eq, ByteArray.toList_eq]; rfl
  have e3 : ((⟨#[112, 117, 116]⟩ : ByteArray).toList == (⟨#[119, 97, 105, 116]⟩ : ByteArray).toList) = false := by
    rw [ByteArray.toList_eq, ByteArray.toList_eq]; rfl
  have e4 : ((⟨#[112, 117, 116]⟩ : ByteArray).toList == (⟨#[102, 108, 117, 115, 104]⟩ : ByteArray).toList) = false := by
    rw [ByteArray.toList_eq, ByteArray.toList_eq]; rfl
  have e5 : ((⟨#[112, 117, 116]⟩ : ByteArray).toList == (⟨#[114, 101, 97, 100]⟩ : ByteArray).toList) = false := by
    rw [ByteArray.toList_eq, ByteArray.toList_eq]; rfl
  have e6 : ((⟨#[112, 117, 116]⟩ : ByteArray).toList == (⟨#[112, 117, 116]⟩ : ByteArray).toList) = true := by simp
  have e7 : ((⟨#[112, 117, 116]⟩ : ByteArray).toList == (⟨#[100, 114, 111, 112]⟩ : ByteArray).toList) = false := by
    rw [ByteArray.toList_eq, ByteArray.toList_eq]; rfl
  have e8 : ((⟨#[112, 117, 116]⟩ : ByteArray).toList == (⟨#[108, 97, 116, 101, 114]⟩ : ByteArray).toList) = false := by
    rw [ByteArray.toList_eq, ByteArray.toList_eq]; rfl
  have n1 : decide (n < 1) = false := by simp; omega
  have n2 : decide (1000 < n) = false := by simp; omega
  have HS1 := Lib.hid hS1
  have Hq := Lib.hid hq
  have Hcall := Lib.hid hcall
  have Hcf := Lib.hid hcf
  have hbz : w.heap.size ≠ b := by have := lt_of_block hS; omega
  clear E HK hS hq hcf hS1 E1 qx hcall hl9
  go_enter Tryz.func90, Tryz.ntmps90
  go_wp2_with fail
  refine Hcall.out.mono ?_
  rintro e w2 ⟨rfl, rfl⟩
  go_wp2
  go_ret
  exact sop_bad 7 Hcf.out (by omega) rfl Hq.out.any
theorem sop_put (E : ErrsAt w a) (HK : KindsW w) (hn : 1 ≤ n) (hn2 : n ≤ 1000) (hS : StAt w b ⟨0, false, wt, u⟩) :
    Calls Tryz.prog 90 #[.pointer (some ⟨b, 0, none⟩), .agg #[.string ⟨#[112, 117, 116]⟩, .int .i64 n]] w (SopPost a ⟨0, false, wt, u⟩ (kPut, n) b w) := by
  have hq := (Mod.refl noF w).alloc (.cells #[.string ⟨#[112, 117, 116]⟩, .int .i64 n] 88)
  have hcf : cfOp ⟨0, false, wt, u⟩ (kPut, n) = (0, ⟨0, true, false, u⟩) := by
    unfold cfOp
    have hm : memK kindsC ⟨#[112, 117, 116]⟩ = true := by decide +kernel
    simp [hm, kEnter, kLeave, kRest, kWait, kRead, kPut, kDrop, kLater, kFlush, show ¬ n < 1 by omega, show ¬ 1000 < n by omega]
  have hS1 := hq.heap hS (fun e => e)
  have h0 := cell_of_heap hS1 0
  have h1 := cell_of_heap hS1 1
  have h2 := cell_of_heap hS1 2
  have h3 := cell_of_heap hS1 3
  have f0 := free_of_heap hS1 0
  have f1 := free_of_heap hS1 1
  have f2 := free_of_heap hS1 2
  have f3 := free_of_heap hS1 3
  replace h0 : (w.alloc (.cells #[.string ⟨#[112, 117, 116]⟩, .int .i64 n] 88)).cell? ⟨b, 0, none⟩ = some (.int .i64 ((0 : Nat) : Int)) := h0
  replace h1 : (w.alloc (.cells #[.string ⟨#[112, 117, 116]⟩, .int .i64 n] 88)).cell? ⟨b, 1, none⟩ = some (.bool false) := h1
  replace h2 : (w.alloc (.cells #[.string ⟨#[112, 117, 116]⟩, .int .i64 n] 88)).cell? ⟨b, 2, none⟩ = some (.bool wt) := h2
  replace h3 : (w.alloc (.cells #[.string ⟨#[112, 117, 116]⟩, .int .i64 n] 88)).cell? ⟨b, 3, none⟩ = some (.bool u) := h3
  have E1 := E.keep hq
  obtain ⟨gk, off, cap, q0, qx⟩ := HK.keep hq
  have hcall := containsK2 (w.alloc (.cells #[.string ⟨#[112, 117, 116]⟩, .int .i64 n] 88)) gk off cap kindsC kPut qx (by decide)
  rw [show memK kindsC kPut = true by decide +kernel] at hcall
  have hl9 : kindsC.length = 9 := rfl
  rw [hl9] at hcall
  have v1 := E1.v1
  have v2 := E1.v2
  have v4 := E1.v4
  have v7 := E1.v7
  have e0 : ((⟨#[112, 117, 116]⟩ : ByteArray).toList == (⟨#[101, 110, 116, 101, 114]⟩ : ByteArray).toList) = false := by
    rw [ByteArray.toList_eq, ByteArray.toList_eq]; rfl
  have e1 : ((⟨#[112, 117, 116]⟩ : ByteArray).toList == (⟨#[108, 101, 97, 118, 101]⟩ : ByteArray).toList) = false := by
    rw [ByteArray.toList_eq, ByteArray.toList_eq]; rfl
  have e2 : ((⟨#[112, 117, 116]⟩ : ByteArray).toList == (⟨#[114, 101, 115, 116]⟩ : ByteArray).toList) = false := by
    rw [ByteArray.toList_eq, ByteArray.toList_eq]; rfl
  have e3 : ((⟨#[112, 117, 116]⟩ : ByteArray).toList == (⟨#[119, 97, 105, 116]⟩ : ByteArray).toList) = false := by
    rw [ByteArray.toList_eq, ByteArray.toList_eq]; rfl
  have e4 : ((⟨#[112, 117, 116]⟩ : ByteArray).toList == (⟨#[102, 108, 117, 115, 104]⟩ : ByteArray).toList) = false := by
    rw [ByteArray.toList_eq, ByteArray.toList_eq]; rfl
  have e5 : ((⟨#[112, 117, 116]⟩ : ByteArray).toList == (⟨#[114, 101, 97, 100]⟩ : ByteArray).toList) = false := by
    rw [ByteArray.toList_eq, ByteArray.toList_eq]; rfl
  have e6 : ((⟨#[112, 117, 116]⟩ : ByteArray).toList == (⟨#[112, 117, 116]⟩ : ByteArray).toList) = true := by simp
  have e7 : ((⟨#[112, 117, 116]⟩ : ByteArray).toList == (⟨#[100, 114, 111, 112]⟩ : ByteArray).toList) = false := by
    rw [ByteArray.toList_eq, ByteArray.toList_eq]; rfl
  have e8 : ((⟨#[112, 117, 116]⟩ : ByteArray).toList == (⟨#[108, 97, 116, 101, 114]⟩ : ByteArray).toList) = false := by
    rw [ByteArray.toList_eq, ByteArray.toList_eq]; rfl
  have n1 : decide (n < 1) = false := by simp; omega
  have n2 : decide (1000 < n) = false := by simp; omega
  have HS1 := Lib.hid hS1
  have Hq := Lib.hid hq
  have Hcall := Lib.hid hcall
  have Hcf := Lib.hid hcf
  have hbz : w.heap.size ≠ b := by have := lt_of_block hS; omega
  clear E HK hS hq hcf hS1 E1 qx hcall hl9
  go_enter Tryz.func90, Tryz.ntmps90
  go_wp2_with fail
  refine Hcall.out.mono ?_
  rintro e w2 ⟨rfl, rfl⟩
  go_wp2
  go_ret
  refine sop_good Hcf.out ?_ (((show Qh.Mod (fun k => k = b) w _ from Hq.out.any).setCell (fun _ => rfl) _).setCell (fun _ => rfl) _)
  unfold StAt
  rw [Qh.heap_setCell_same (Qh.heap_setCell_same (HS1.out) 1 _) 2 _]; rfl
theorem sop_drop_r (E : ErrsAt w a) (HK : KindsW w) (hS : StAt w b ⟨d, false, wt, u⟩) :
    Calls Tryz.prog 90 #[.pointer (some ⟨b, 0, none⟩), .agg #[.string ⟨#[100, 114, 111, 112]⟩, .int .i64 0]] w (SopPost a ⟨d, false, wt, u⟩ (kDrop, 0) b w) := by
  have hq := (Mod.refl noF w).alloc (.cells #[.string ⟨#[100, 114, 111, 112]⟩, .int .i64 0] 88)
  have hcf : cfOp ⟨d, false, wt, u⟩ (kDrop, 0) = (5, ⟨d, false, wt, u⟩) := by
    unfold cfOp
    have hm : memK kindsC ⟨#[100, 114, 111, 112]⟩ = true := by decide +kernel
    simp [hm, kEnter, kLeave, kRest, kWait, kRead, kPut, kDrop, kLater, kFlush]
  have hS1 := hq.heap hS (fun e => e)
  have h0 := cell_of_heap hS1 0
  have h1 := cell_of_heap hS1 1
  have h2 := cell_of_heap hS1 2
  have h3 := cell_of_heap hS1 3
  have f0 := free_of_heap hS1 0
  have f1 := free_of_heap hS1 1
  have f2 := free_of_heap hS1 2
  have f3 := free_of_heap hS1 3
  replace h0 : (w.alloc (.cells #[.string ⟨#[100, 114, 111, 112]⟩, .int .i64 0] 88)).cell? ⟨b, 0, none⟩ = some (.int .i64 ((d : Nat) : Int)) := h0
  replace h1 : (w.alloc (.cells #[.string ⟨#[100, 114, 111, 112]⟩, .int .i64 0] 88)).cell? ⟨b, 1, none⟩ = some (.bool false) := h1
  replace h2 : (w.alloc (.cells #[.string ⟨#[100, 114, 111, 112]⟩, .int .i64 0] 88)).cell? ⟨b, 2, none⟩ = some (.bool wt) := h2
  replace h3 : (w.alloc (.cells #[.string ⟨#[100, 114, 111, 112]⟩, .int .i64 0] 88)).cell? ⟨b, 3, none⟩ = some (.bool u) := h3
  have E1 := E.keep hq
  obtain ⟨gk, off, cap, q0, qx⟩ := HK.keep hq
  have hcall := containsK2 (w.alloc (.cells #[.string ⟨#[100, 114, 111, 112]⟩, .int .i64 0] 88)) gk off cap kindsC kDrop qx (by decide)
  rw [show memK kindsC kDrop = true by decide +kernel] at hcall
  have hl9 : kindsC.length = 9 := rfl
  rw [hl9] at hcall
  have v1 := E1.v1
  have v2 := E1.v2
  have v4 := E1.v4
  have v7 := E1.v7
  have e0 : ((⟨#[100, 114, 111, 112]⟩ : ByteArray).toList == (⟨#[101, 110, 116, 101, 114]⟩ : ByteArray).toList) = false := by
    rw [ByteArray.toList_eq, ByteArray.toList_eq]; rfl
  have e1 : ((⟨#[100, 114, 111, 112]⟩ : ByteArray).toList == (⟨#[108, 101, 97, 118, 101]⟩ : ByteArray).toList) = false := by
    rw [ByteArray.toList_eq, ByteArray.toList_eq]; rfl
  have e2 : ((⟨#[100, 114, 111, 112]⟩ : ByteArray).toList == (⟨#[114, 101, 115, 116]⟩ : ByteArray).toList) = false := by
    rw [ByteArray.toList_eq, ByteArray.toList_eq]; rfl
  have e3 : ((⟨#[100, 114, 111, 112]⟩ : ByteArray).toList == (⟨#[119, 97, 105, 116]⟩ : ByteArray).toList) = false := by
    rw [ByteArray.toList_eq, ByteArray.toList_eq]; rfl
  have e4 : ((⟨#[100, 114, 111, 112]⟩ : ByteArray).toList == (⟨#[102, 108, 117, 115, 104]⟩ : ByteArray).toList) = false := by
    rw [ByteArray.toList_eq, ByteArray.toList_eq]; rfl
  have e5 : ((⟨#[100, 114, 111, 112]⟩ : ByteArray).toList == (⟨#[114, 101, 97, 100]⟩ : ByteArray).toList) = false := by
    rw [ByteArray.toList_eq, ByteArray.toList_eq]; rfl
  have e6 : ((⟨#[100, 114, 111, 112]⟩ : ByteArray).toList == (⟨#[112, 117, 116]⟩ : ByteArray).toList) = false := by
    rw [ByteArray.toList_eq, ByteArray.toList_eq]; rfl
  have e7 : ((⟨#[100, 114, 111, 112]⟩ : ByteArray).toList == (⟨#[100, 114, 111, 112]⟩ : ByteArray).toList) = true := by simp
  have e8 : ((⟨#[100, 114, 111, 112]⟩ : ByteArray).toList == (⟨#[108, 97, 116, 101, 114]⟩ : ByteArray).toList) = false := by
    rw [ByteArray.toList_eq, ByteArray.toList_eq]; rfl
  have HS1 := Lib.hid hS1
  have Hq := Lib.hid hq
  have Hcall := Lib.hid hcall
  have Hcf := Lib.hid hcf
  have hbz : w.heap.size ≠ b := by have := lt_of_block hS; omega
  clear E HK hS hq hcf hS1 E1 qx hcall hl9
  go_enter Tryz.func90, Tryz.ntmps90
  go_wp2_with fail
  refine Hcall.out.mono ?_
  rintro e w2 ⟨rfl, rfl⟩
  go_wp2
  go_ret
  exact sop_bad 4 Hcf.out (by omega) rfl Hq.out.any
theorem sop_drop_u (E : ErrsAt w a) (HK : KindsW w) (hS : StAt w b ⟨d, true, wt, true⟩) :
    Calls Tryz.prog 90 #[.pointer (some ⟨b, 0, none⟩), .agg #[.string ⟨#[100, 114, 111, 112]⟩, .int .i64 0]] w (SopPost a ⟨d, true, wt, true⟩ (kDrop, 0) b w) := by
  have hq := (Mod.refl noF w).alloc (.cells #[.string ⟨#[100, 114, 111, 112]⟩, .int .i64 0] 88)
  have hcf : cfOp ⟨d, true, wt, true⟩ (kDrop, 0) = (0, ⟨d, false, wt, true⟩) := by
    unfold cfOp
    have hm : memK kindsC ⟨#[100, 114, 111, 112]⟩ = true := by decide +kernel
    simp [hm, kEnter, kLeave, kRest, kWait, kRead, kPut, kDrop, kLater, kFlush]
  have hS1 := hq.heap hS (fun e => e)
  have h0 := cell_of_heap hS1 0
  have h1 := cell_of_heap hS1 1
  have h2 := cell_of_heap hS1 2
  have h3 := cell_of_heap hS1 3
  have f0 := free_of_heap hS1 0
  have f1 := free_of_heap hS1 1
  have f2 := free_of_heap hS1 2
  have f3 := free_of_heap hS1 3
  replace h0 : (w.alloc (.cells #[.string ⟨#[100, 114, 111, 112]⟩, .int .i64 0] 88)).cell? ⟨b, 0, none⟩ = some (.int .i64 ((d : Nat) : Int)) := h0
  replace h1 : (w.alloc (.cells #[.string ⟨#[100, 114, 111, 112]⟩, .int .i64 0] 88)).cell? ⟨b, 1, none⟩ = some (.bool true) := h1
  replace h2 : (w.alloc (.cells #[.string ⟨#[100, 114, 111, 112]⟩, .int .i64 0] 88)).cell? ⟨b, 2, none⟩ = some (.bool wt) := h2
  replace h3 : (w.alloc (.cells #[.string ⟨#[100, 114, 111, 112]⟩, .int .i64 0] 88)).cell? ⟨b, 3, none⟩ = some (.bool true) := h3
  have E1 := E.keep hq
  obtain ⟨gk, off, cap, q0, qx⟩ := HK.keep hq
  have hcall := containsK2 (w.alloc (.cells #[.string ⟨#[100, 114, 111, 112]⟩, .int .i64 0] 88)) gk off cap kindsC kDrop qx (by decide)
  rw [show memK kindsC kDrop = true by decide +kernel] at hcall
  have hl9 : kindsC.length = 9 := rfl
  rw [hl9] at hcall
  have v1 := E1.v1
  have v2 := E1.v2
  have v4 := E1.v4
  have v7 := E1.v7
  have e0 : ((⟨#[100, 114, 111, 112]⟩ : ByteArray).toList == (⟨#[101, 110, 116, 101, 114]⟩ : ByteArray).toList) = false := by
    rw [ByteArray.toList_eq, ByteArray.toList_eq]; rfl
  have e1 : ((⟨#[100, 114, 111, 112]⟩ : ByteArray).toList == (⟨#[108, 101, 97, 118, 101]⟩ : ByteArray).toList) = false := by
    rw [ByteArray.toList_eq, ByteArray.toList_eq]; rfl
  have e2 : ((⟨#[100, 114, 111, 112]⟩ : ByteArray).toList == (⟨#[114, 101, 115, 116]⟩ : ByteArray).toList) = false := by
    rw [ByteArray.toList_eq, ByteArray.toList_eq]; rfl
  have e3 : ((⟨#[100, 114, 111, 112]⟩ : ByteArray).toList == (⟨#[119, 97, 105, 116]⟩ : ByteArray).toList) = false := by
    rw [ByteArray.toList_eq, ByteArray.toList_eq]; rfl
  have e4 : ((⟨#[100, 114, 111, 112]⟩ : ByteArray).toList == (⟨#[102, 108, 117, 115, 104]⟩ : ByteArray).toList) = false := by
    rw [ByteArray.toList_eq, ByteArray.toList_eq]; rfl
  have e5 : ((⟨#[100, 114, 111, 112]⟩ : ByteArray).toList == (⟨#[114, 101, 97, 100]⟩ : ByteArray).toList) = false := by
    rw [ByteArray.toList_eq, ByteArray.toList_eq]; rfl
  have e6 : ((⟨#[100, 114, 111, 112]⟩ : ByteArray).toList == (⟨#[112, 117, 116]⟩ : ByteArray).toList) = false := by
    rw [ByteArray.toList_eq, ByteArray.toList_eq]; rfl
  have e7 : ((⟨#[100, 114, 111, 112]⟩ : ByteArray).toList == (⟨#[100, 114, 111, 112]⟩ : ByteArray).toList) = true := by simp
  have e8 : ((⟨#[100, 114, 111, 112]⟩ : ByteArray).toList == (⟨#[108, 97, 116, 101, 114]⟩ : ByteArray).toList) = false := by
    rw [ByteArray.toList_eq, ByteArray.toList_eq]; rfl
  have HS1 := Lib.hid hS1
  have Hq := Lib.hid hq
  have Hcall := Lib.hid hcall
  have Hcf := Lib.hid hcf
  have hbz : w.heap.size ≠ b := by have := lt_of_block hS; omega
  clear E HK hS hq hcf hS1 E1 qx hcall hl9
  go_enter Tryz.func90, Tryz.ntmps90
  go_wp2_with fail
  refine Hcall.out.mono ?_
  rintro e w2 ⟨rfl, rfl⟩
  go_wp2
  go_ret
  refine sop_good Hcf.out ?_ (((show Qh.Mod (fun k => k = b) w _ from Hq.out.any).setCell (fun _ => rfl) _).setCell (fun _ => rfl) _)
  unfold StAt
  rw [Qh.heap_setCell_same (Qh.heap_setCell_same (HS1.out) 1 _) 3 _]; rfl
theorem sop_later_r (E : ErrsAt w a) (HK : KindsW w) (hS : StAt w b ⟨d, false, wt, u⟩) :
    Calls Tryz.prog 90 #[.pointer (some ⟨b, 0, none⟩), .agg #[.string ⟨#[108, 97, 116, 101, 114]⟩, .int .i64 0]] w (SopPost a ⟨d, false, wt, u⟩ (kLater, 0) b w) := by
  have hq := (Mod.refl noF w).alloc (.cells #[.string ⟨#[108, 97, 116, 101, 114]⟩, .int .i64 0] 88)
  have hcf : cfOp ⟨d, false, wt, u⟩ (kLater, 0) = (5, ⟨d, false, wt, u⟩) := by
    unfold cfOp
    have hm : memK kindsC ⟨#[108, 97, 116, 101, 114]⟩ = true := by decide +kernel
    simp [hm, kEnter, kLeave, kRest, kWait, kRead, kPut, kDrop, kLater, kFlush]
  have hS1 := hq.heap hS (fun e => e)
  have h0 := cell_of_heap hS1 0
  have h1 := cell_of_heap hS1 1
  have h2 := cell_of_heap hS1 2
  have h3 := cell_of_heap hS1 3
  have f0 := free_of_heap hS1 0
  have f1 := free_of_heap hS1 1
  have f2 := free_of_heap hS1 2
  have f3 := free_of_heap hS1 3
  replace h0 : (w.alloc (.cells #[.string ⟨#[108, 97, 116, 101, 114]⟩, .int .i64 0] 88)).cell? ⟨b, 0, none⟩ = some (.int .i64 ((d : Nat) : Int)) := h0
  replace h1 : (w.alloc (.cells #[.string ⟨#[108, 97, 116, 101, 114]⟩, .int .i64 0] 88)).cell? ⟨b, 1, none⟩ = some (.bool false) := h1
  replace h2 : (w.alloc (.cells #[.string ⟨#[108, 97, 116, 101, 114]⟩, .int .i64 0] 88)).cell? ⟨b, 2, none⟩ = some (.bool wt) := h2
  replace h3 : (w.alloc (.cells #[.string ⟨#[108, 97, 116, 101, 114]⟩, .int .i64 0] 88)).cell? ⟨b, 3, none⟩ = some (.bool u) := h3
  have E1 := E.keep hq
  obtain ⟨gk, off, cap, q0, qx⟩ := HK.keep hq
  have hcall := containsK2 (w.alloc (.cells #[.string ⟨#[108, 97, 116, 101, 114]⟩, .int .i64 0] 88)) gk off cap kindsC kLater qx (by decide)
  rw [show memK kindsC kLater = true by decide +kernel] at hcall
  have hl9 : kindsC.length = 9 := rfl
  rw [hl9] at hcall
  have v1 := E1.v1
  have v2 := E1.v2
  have v4 := E1.v4
  have v7 := E1.v7
  have e0 : ((⟨#[108, 97, 116, 101, 114]⟩ : ByteArray).toList == (⟨#[101, 110, 116, 101, 114]⟩ : ByteArray).toList) = false := by
    rw [ByteArray.toList_eq, ByteArray.toList_eq]; rfl
  have e1 : ((⟨#[108, 97, 116, 101, 114]⟩ : ByteArray).toList == (⟨#[108, 101, 97, 118, 101]⟩ : ByteArray).toList) = false := by
    rw [ByteArray.toList_eq, ByteArray.toList_eq]; rfl
  have e2 : ((⟨#[108, 97, 116, 101, 114]⟩ : ByteArray).toList == (⟨#[114, 101, 115, 116]⟩ : ByteArray).toList) = false := by
    rw [ByteArray.toList_eq, ByteArray.toList_eq]; rfl
  have e3 : ((⟨#[108, 97, 116, 101, 114]⟩ : ByteArray).toList == (⟨#[119, 97, 105, 116]⟩ : ByteArray).toList) = false := by
    rw [ByteArray.toList_eq, ByteArray.toList_eq]; rfl
  have e4 : ((⟨#[108, 97, 116, 101, 114]⟩ : ByteArray).toList == (⟨#[102, 108, 117, 115, 104]⟩ : ByteArray).toList) = false := by
    rw [ByteArray.toList_eq, ByteArray.toList_eq]; rfl
  have e5 : ((⟨#[108, 97, 116, 101, 114]⟩ : ByteArray).toList == (⟨#[114, 101, 97, 100]⟩ : ByteArray).toList) = false := by
    rw [ByteArray.toList_eq, ByteArray.toList_eq]; rfl
  have e6 : ((⟨#[108, 97, 116, 101, 114]⟩ : ByteArray).toList == (⟨#[112, 117, 116]⟩ : ByteArray).toList) = false := by
    rw [ByteArray.toList_eq, ByteArray.toList_eq]; rfl
  have e7 : ((⟨#[108, 97, 116, 101, 114]⟩ : ByteArray).toList == (⟨#[100, 114, 111, 112]⟩ : ByteArray).toList) = false := by
    rw [ByteArray.toList_eq, ByteArray.toList_eq]; rfl
  have e8 : ((⟨#[108, 97, 116, 101, 114]⟩ : ByteArray).toList == (⟨#[108, 97, 116, 101, 114]⟩ : ByteArray).toList) = true := by simp
  have HS1 := Lib.hid hS1
  have Hq := Lib.hid hq
  have Hcall := Lib.hid hcall
  have Hcf := Lib.hid hcf
  have hbz : w.heap.size ≠ b := by have := lt_of_block hS; omega
  clear E HK hS hq hcf hS1 E1 qx hcall hl9
  go_enter Tryz.func90, Tryz.ntmps90
  go_wp2_with fail
  refine Hcall.out.mono ?_
  rintro e w2 ⟨rfl, rfl⟩
  go_wp2
  go_ret
  exact sop_bad 4 Hcf.out (by omega) rfl Hq.out.any
theorem sop_later_u (E : ErrsAt w a) (HK : KindsW w) (hS : StAt w b ⟨d, true, wt, true⟩) :
    Calls Tryz.prog 90 #[.pointer (some ⟨b, 0, none⟩), .agg #[.string ⟨#[108, 97, 116, 101, 114]⟩, .int .i64 0]] w (SopPost a ⟨d, true, wt, true⟩ (kLater, 0) b w) := by
  have hq := (Mod.refl noF w).alloc (.cells #[.string ⟨#[108, 97, 116, 101, 114]⟩, .int .i64 0] 88)
  have hcf : cfOp ⟨d, true, wt, true⟩ (kLater, 0) = (0, ⟨d, false, wt, true⟩) := by
    unfold cfOp
    have hm : memK kindsC ⟨#[108, 97, 116, 101, 114]⟩ = true := by decide +kernel
    simp [hm, kEnter, kLeave, kRest, kWait, kRead, kPut, kDrop, kLater, kFlush]
  have hS1 := hq.heap hS (fun e => e)
  have h0 := cell_of_heap hS1 0
  have h1 := cell_of_heap hS1 1
  have h2 := cell_of_heap hS1 2
  have h3 := cell_of_heap hS1 3
  have f0 := free_of_heap hS1 0
  have f1 := free_of_heap hS1 1
  have f2 := free_of_heap hS1 2
  have f3 := free_of_heap hS1 3
  replace h0 : (w.alloc (.cells #[.string ⟨#[108, 97, 116, 101, 114]⟩, .int .i64 0] 88)).cell? ⟨b, 0, none⟩ = some (.int .i64 ((d : Nat) : Int)) := h0
  replace h1 : (w.alloc (.cells #[.string ⟨#[108, 97, 116, 101, 114]⟩, .int .i64 0] 88)).cell? ⟨b, 1, none⟩ = some (.bool true) := h1
  replace h2 : (w.alloc (.cells #[.string ⟨#[108, 97, 116, 101, 114]⟩, .int .i64 0] 88)).cell? ⟨b, 2, none⟩ = some (.bool wt) := h2
  replace h3 : (w.alloc (.cells #[.string ⟨#[108, 97, 116, 101, 114]⟩, .int .i64 0] 88)).cell? ⟨b, 3, none⟩ = some (.bool true) := h3
  have E1 := E.keep hq
  obtain ⟨gk, off, cap, q0, qx⟩ := HK.keep hq
  have hcall := containsK2 (w.alloc (.cells #[.string ⟨#[108, 97, 116, 101, 114]⟩, .int .i64 0] 88)) gk off cap kindsC kLater qx (by decide)
  rw [show memK kindsC kLater = true by decide +kernel] at hcall
  have hl9 : kindsC.length = 9 := rfl
  rw [hl9] at hcall
  have v1 := E1.v1
  have v2 := E1.v2
  have v4 := E1.v4
  have v7 := E1.v7
  have e0 : ((⟨#[108, 97, 116, 101, 114]⟩ : ByteArray).toList == (⟨#[101, 110, 116, 101, 114]⟩ : ByteArray).toList) = false := by
    rw [ByteArray.toList_eq, ByteArray.toList_eq]; rfl
  have e1 : ((⟨#[108, 97, 116, 101, 114]⟩ : ByteArray).toList == (⟨#[108, 101, 97, 118, 101]⟩ : ByteArray).toList) = false := by
    rw [ByteArray.toList_eq, ByteArray.toList_eq]; rfl
  have e2 : ((⟨#[108, 97, 116, 101, 114]⟩ : ByteArray).toList == (⟨#[114, 101, 115, 116]⟩ : ByteArray).toList) = false := by
    rw [ByteArray.toList_eq, ByteArray.toList_eq]; rfl
  have e3 : ((⟨#[108, 97, 116, 101, 114]⟩ : ByteArray).toList == (⟨#[119, 97, 105, 116]⟩ : ByteArray).toList) = false := by
    rw [ByteArray.toList_eq, ByteArray.toList_eq]; rfl
  have e4 : ((⟨#[108, 97, 116, 101, 114]⟩ : ByteArray).toList == (⟨#[102, 108, 117, 115, 104]⟩ : ByteArray).toList) = false := by
    rw [ByteArray.toList_eq, ByteArray.toList_eq]; rfl
  have e5 : ((⟨#[108, 97, 116, 101, 114]⟩ : ByteArray).toList == (⟨#[114, 101, 97, 100]⟩ : ByteArray).toList) = false := by
    rw [ByteArray.toList_eq, ByteArray.toList_eq]; rfl
  have e6 : ((⟨#[108, 97, 116, 101, 114]⟩ : ByteArray).toList == (⟨#[112, 117, 116]⟩ : ByteArray).toList) = false := by
    rw [ByteArray.toList_eq, ByteArray.toList_eq]; rfl
  have e7 : ((⟨#[108, 97, 116, 101, 114]⟩ : ByteArray).toList == (⟨#[100, 114, 111, 112]⟩ : ByteArray).toList) = false := by
    rw [ByteArray.toList_eq, ByteArray.toList_eq]; rfl
  have e8 : ((⟨#[108, 97, 116, 101, 114]⟩ : ByteArray).toList == (⟨#[108, 97, 116, 101, 114]⟩ : ByteArray).toList) = true := by simp
  have HS1 := Lib.hid hS1
  have Hq := Lib.hid hq
  have Hcall := Lib.hid hcall
  have Hcf := Lib.hid hcf
  have hbz : w.heap.size ≠ b := by have := lt_of_block hS; omega
  clear E HK hS hq hcf hS1 E1 qx hcall hl9
  go_enter Tryz.func90, Tryz.ntmps90
  go_wp2_with fail
  refine Hcall.out.mono ?_
  rintro e w2 ⟨rfl, rfl⟩
  go_wp2
  go_ret
  refine sop_good Hcf.out ?_ (((show Qh.Mod (fun k => k = b) w _ from Hq.out.any).setCell (fun _ => rfl) _).setCell (fun _ => rfl) _)
  unfold StAt
  rw [Qh.heap_setCell_same (Qh.heap_setCell_same (HS1.out) 1 _) 3 _]; rfl
theorem sop_drop_w (E : ErrsAt w a) (HK : KindsW w) (hS : StAt w b ⟨d, true, true, false⟩) :
    Calls Tryz.prog 90 #[.pointer (some ⟨b, 0, none⟩), .agg #[.string ⟨#[100, 114, 111, 112]⟩, .int .i64 0]] w (SopPost a ⟨d, true, true, false⟩ (kDrop, 0) b w) := by
  have hq := (Mod.refl noF w).alloc (.cells #[.string ⟨#[100, 114, 111, 112]⟩, .int .i64 0] 88)
  have hcf : cfOp ⟨d, true, true, false⟩ (kDrop, 0) = (0, ⟨d, false, true, false⟩) := by
    unfold cfOp
    have hm : memK kindsC ⟨#[100, 114, 111, 112]⟩ = true := by decide +kernel
    simp [hm, kEnter, kLeave, kRest, kWait, kRead, kPut, kDrop, kLater, kFlush]
  have hS1 := hq.heap hS (fun e => e)
  have h0 := cell_of_heap hS1 0
  have h1 := cell_of_heap hS1 1
  have h2 := cell_of_heap hS1 2
  have h3 := cell_of_heap hS1 3
  have f0 := free_of_heap hS1 0
  have f1 := free_of_heap hS1 1
  have f2 := free_of_heap hS1 2
  have f3 := free_of_heap hS1 3
  replace h0 : (w.alloc (.cells #[.string ⟨#[100, 114, 111, 112]⟩, .int .i64 0] 88)).cell? ⟨b, 0, none⟩ = some (.int .i64 ((d : Nat) : Int)) := h0
  replace h1 : (w.alloc (.cells #[.string ⟨#[100, 114, 111, 112]⟩, .int .i64 0] 88)).cell? ⟨b, 1, none⟩ = some (.bool true) := h1
  replace h2 : (w.alloc (.cells #[.string ⟨#[100, 114, 111, 112]⟩, .int .i64 0] 88)).cell? ⟨b, 2, none⟩ = some (.bool true) := h2
  replace h3 : (w.alloc (.cells #[.string ⟨#[100, 114, 111, 112]⟩, .int .i64 0] 88)).cell? ⟨b, 3, none⟩ = some (.bool false) := h3
  have E1 := E.keep hq
  obtain ⟨gk, off, cap, q0, qx⟩ := HK.keep hq
  have hcall := containsK2 (w.alloc (.cells #[.string ⟨#[100, 114, 111, 112]⟩, .int .i64 0] 88)) gk off cap kindsC kDrop qx (by decide)
  rw [show memK kindsC kDrop = true by decide +kernel] at hcall
  have hl9 : kindsC.length = 9 := rfl
  rw [hl9] at hcall
  have v1 := E1.v1
  have v2 := E1.v2
  have v4 := E1.v4
  have v7 := E1.v7
  have e0 : ((⟨#[100, 114, 111, 112]⟩ : ByteArray).toList == (⟨#[101, 110, 116, 101, 114]⟩ : ByteArray).toList) = false := by
    rw [ByteArray.toList_eq, ByteArray.toList_eq]; rfl
  have e1 : ((⟨#[100, 114, 111, 112]⟩ : ByteArray).toList == (⟨#[108, 101, 97, 118, 101]⟩ : ByteArray).toList) = false := by
    rw [ByteArray.toList_eq, ByteArray.toList_eq]; rfl
  have e2 : ((⟨#[100, 114, 111, 112]⟩ : ByteArray).toList == (⟨#[114, 101, 115, 116]⟩ : ByteArray).toList) = false := by
    rw [ByteArray.toList_eq, ByteArray.toList_eq]; rfl
  have e3 : ((⟨#[100, 114, 111, 112]⟩ : ByteArray).toList == (⟨#[119, 97, 105, 116]⟩ : ByteArray).toList) = false := by
    rw [ByteArray.toList_eq, ByteArray.toList_eq]; rfl
  have e4 : ((⟨#[100, 114, 111, 112]⟩ : ByteArray).toList == (⟨#[102, 108, 117, 115, 104]⟩ : ByteArray).toList) = false := by
    rw [ByteArray.toList_eq, ByteArray.toList_eq]; rfl
  have e5 : ((⟨#[100, 114, 111, 112]⟩ : ByteArray).toList == (⟨#[114, 101, 97, 100]⟩ : ByteArray).toList) = false := by
    rw [ByteArray.toList_eq, ByteArray.toList_eq]; rfl
  have e6 : ((⟨#[100, 114, 111, 112]⟩ : ByteArray).toList == (⟨#[112, 117, 116]⟩ : ByteArray).toList) = false := by
    rw [ByteArray.toList_eq, ByteArray.toList_eq]; rfl
  have e7 : ((⟨#[100, 114, 111, 112]⟩ : ByteArray).toList == (⟨#[100, 114, 111, 112]⟩ : ByteArray).toList) = true := by simp
  have e8 : ((⟨#[100, 114, 111, 112]⟩ : ByteArray).toList == (⟨#[108, 97, 116, 101, 114]⟩ : ByteArray).toList) = false := by
    rw [ByteArray.toList_eq, ByteArray.toList_eq]; rfl
  have HS1 := Lib.hid hS1
  have Hq := Lib.hid hq
  have Hcall := Lib.hid hcall
  have Hcf := Lib.hid hcf
  have hbz : w.heap.size ≠ b := by have := lt_of_block hS; omega
  clear E HK hS hq hcf hS1 E1 qx hcall hl9
  go_enter Tryz.func90, Tryz.ntmps90
  go_wp2_with fail
  refine Hcall.out.mono ?_
  rintro e w2 ⟨rfl, rfl⟩
  go_wp2
  go_ret
  refine sop_good Hcf.out ?_ (((show Qh.Mod (fun k => k = b) w _ from Hq.out.any).setCell (fun _ => rfl) _).setCell (fun _ => rfl) _)
  unfold StAt
  rw [Qh.heap_setCell_same (Qh.heap_setCell_same (HS1.out) 1 _) 3 _]; rfl
theorem sop_drop_f (E : ErrsAt w a) (HK : KindsW w) (hS : StAt w b ⟨d, true, false, false⟩) :
    Calls Tryz.prog 90 #[.pointer (some ⟨b, 0, none⟩), .agg #[.string ⟨#[100, 114, 111, 112]⟩, .int .i64 0]] w (SopPost a ⟨d, true, false, false⟩ (kDrop, 0) b w) := by
  have hq := (Mod.refl noF w).alloc (.cells #[.string ⟨#[100, 114, 111, 112]⟩, .int .i64 0] 88)
  have hcf : cfOp ⟨d, true, false, false⟩ (kDrop, 0) = (0, ⟨d, false, false, true⟩) := by
    unfold cfOp
    have hm : memK kindsC ⟨#[100, 114, 111, 112]⟩ = true := by decide +kernel
    simp [hm, kEnter, kLeave, kRest, kWait, kRead, kPut, kDrop, kLater, kFlush]
  have hS1 := hq.heap hS (fun e => e)
  have h0 := cell_of_heap hS1 0
  have h1 := cell_of_heap hS1 1
  have h2 := cell_of_heap hS1 2
  have h3 := cell_of_heap hS1 3
  have f0 := free_of_heap hS1 0
  have f1 := free_of_heap hS1 1
  have f2 := free_of_heap hS1 2
  have f3 := free_of_heap hS1 3
  replace h0 : (w.alloc (.cells #[.string ⟨#[100, 114, 111, 112]⟩, .int .i64 0] 88)).cell? ⟨b, 0, none⟩ = some (.int .i64 ((d : Nat) : Int)) := h0
  replace h1 : (w.alloc (.cells #[.string ⟨#[100, 114, 111, 112]⟩, .int .i64 0] 88)).cell? ⟨b, 1, none⟩ = some (.bool true) := h1
  replace h2 : (w.alloc (.cells #[.string ⟨#[100, 114, 111, 112]⟩, .int .i64 0] 88)).cell? ⟨b, 2, none⟩ = some (.bool false) := h2
  replace h3 : (w.alloc (.cells #[.string ⟨#[100, 114, 111, 112]⟩, .int .i64 0] 88)).cell? ⟨b, 3, none⟩ = some (.bool false) := h3
  have E1 := E.keep hq
  obtain ⟨gk, off, cap, q0, qx⟩ := HK.keep hq
  have hcall := containsK2 (w.alloc (.cells #[.string ⟨#[100, 114, 111, 112]⟩, .int .i64 0] 88)) gk off cap kindsC kDrop qx (by decide)
  rw [show memK kindsC kDrop = true by decide +kernel] at hcall
  have hl9 : kindsC.length = 9 := rfl
  rw [hl9] at hcall
  have v1 := E1.v1
  have v2 := E1.v2
  have v4 := E1.v4
  have v7 := E1.v7
  have e0 : ((⟨#[100, 114, 111, 112]⟩ : ByteArray).toList == (⟨#[101, 110, 116, 101, 114]⟩ : ByteArray).toList) = false := by
    rw [ByteArray.toList_eq, ByteArray.toList_eq]; rfl
  have e1 : ((⟨#[100, 114, 111, 112]⟩ : ByteArray).toList == (⟨#[108, 101, 97, 118, 101]⟩ : ByteArray).toList) = false := by
    rw [ByteArray.toList_eq, ByteArray.toList_eq]; rfl
  have e2 : ((⟨#[100, 114, 111, 112]⟩ : ByteArray).toList == (⟨#[114, 101, 115, 116]⟩ : ByteArray).toList) = false := by
    rw [ByteArray.toList_eq, ByteArray.toList_eq]; rfl
  have e3 : ((⟨#[100, 114, 111, 112]⟩ : ByteArray).toList == (⟨#[119, 97, 105, 116]⟩ : ByteArray).toList) = false := by
    rw [ByteArray.toList_eq, ByteArray.toList_eq]; rfl
  have e4 : ((⟨#[100, 114, 111, 112]⟩ : ByteArray).toList == (⟨#[102, 108, 117, 115, 104]⟩ : ByteArray).toList) = false := by
    rw [ByteArray.toList_eq, ByteArray.toList_eq]; rfl
  have e5 : ((⟨#[100, 114, 111, 112]⟩ : ByteArray).toList == (⟨#[114, 101, 97, 100]⟩ : ByteArray).toList) = false := by
    rw [ByteArray.toList_eq, ByteArray.toList_eq]; rfl
  have e6 : ((⟨#[100, 114, 111, 112]⟩ : ByteArray).toList == (⟨#[112, 117, 116]⟩ : ByteArray).toList) = false := by
    rw [ByteArray.toList_eq, ByteArray.toList_eq]; rfl
  have e7 : ((⟨#[100, 114, 111, 112]⟩ : ByteArray).toList == (⟨#[100, 114, 111, 112]⟩ : ByteArray).toList) = true := by simp
  have e8 : ((⟨#[100, 114, 111, 112]⟩ : ByteArray).toList == (⟨#[108, 97, 116, 101, 114]⟩ : ByteArray).toList) = false := by
    rw [ByteArray.toList_eq, ByteArray.toList_eq]; rfl
  have HS1 := Lib.hid hS1
  have Hq := Lib.hid hq
  have Hcall := Lib.hid hcall
  have Hcf := Lib.hid hcf
  have hbz : w.heap.size ≠ b := by have := lt_of_block hS; omega
  clear E HK hS hq hcf hS1 E1 qx hcall hl9
  go_enter Tryz.func90, Tryz.ntmps90
  go_wp2_with fail
  refine Hcall.out.mono ?_
  rintro e w2 ⟨rfl, rfl⟩
  go_wp2
  go_ret
  refine sop_good Hcf.out ?_ (((show Qh.Mod (fun k => k = b) w _ from Hq.out.any).setCell (fun _ => rfl) _).setCell (fun _ => rfl) _)
  unfold StAt
  rw [Qh.heap_setCell_same (Qh.heap_setCell_same (HS1.out) 1 _) 3 _]; rfl
theorem sop_later_f (E : ErrsAt w a) (HK : KindsW w) (hS : StAt w b ⟨d, true, wt, false⟩) :
    Calls Tryz.prog 90 #[.pointer (some ⟨b, 0, none⟩), .agg #[.string ⟨#[108, 97, 116, 101, 114]⟩, .int .i64 0]] w (SopPost a ⟨d, true, wt, false⟩ (kLater, 0) b w) := by
  have hq := (Mod.refl noF w).alloc (.cells #[.string ⟨#[108, 97, 116, 101, 114]⟩, .int .i64 0] 88)
  have hcf : cfOp ⟨d, true, wt, false⟩ (kLater, 0) = (0, ⟨d, false, wt, false⟩) := by
    unfold cfOp
    have hm : memK kindsC ⟨#[108, 97, 116, 101, 114]⟩ = true := by decide +kernel
    simp [hm, kEnter, kLeave, kRest, kWait, kRead, kPut, kDrop, kLater, kFlush]
  have hS1 := hq.heap hS (fun e => e)
  have h0 := cell_of_heap hS1 0
  have h1 := cell_of_heap hS1 1
  have h2 := cell_of_heap hS1 2
  have h3 := cell_of_heap hS1 3
  have f0 := free_of_heap hS1 0
  have f1 := free_of_heap hS1 1
  have f2 := free_of_heap hS1 2
  have f3 := free_of_heap hS1 3
  replace h0 : (w.alloc (.cells #[.string ⟨#[108, 97, 116, 101, 114]⟩, .int .i64 0] 88)).cell? ⟨b, 0, none⟩ = some (.int .i64 ((d : Nat) : Int)) := h0
  replace h1 : (w.alloc (.cells #[.string ⟨#[108, 97, 116, 101, 114]⟩, .int .i64 0] 88)).cell? ⟨b, 1, none⟩ = some (.bool true) := h1
  replace h2 : (w.alloc (.cells #[.string ⟨#[108, 97, 116, 101, 114]⟩, .int .i64 0] 88)).cell? ⟨b, 2, none⟩ = some (.bool wt) := h2
  replace h3 : (w.alloc (.cells #[.string ⟨#[108, 97, 116, 101, 114]⟩, .int .i64 0] 88)).cell? ⟨b, 3, none⟩ = some (.bool false) := h3
  have E1 := E.keep hq
  obtain ⟨gk, off, cap, q0, qx⟩ := HK.keep hq
  have hcall := containsK2 (w.alloc (.cells #[.string ⟨#[108, 97, 116, 101, 114]⟩, .int .i64 0] 88)) gk off cap kindsC kLater qx (by decide)
  rw [show memK kindsC kLater = true by decide +kernel] at hcall
  have hl9 : kindsC.length = 9 := rfl
  rw [hl9] at hcall
  have v1 := E1.v1
  have v2 := E1.v2
  have v4 := E1.v4
  have v7 := E1.v7
  have e0 : ((⟨#[108, 97, 116, 101, 114]⟩ : ByteArray).toList == (⟨#[101, 110, 116, 101, 114]⟩ : ByteArray).toList) = false := by
    rw [ByteArray.toList_eq, ByteArray.toList_eq]; rfl
  have e1 : ((⟨#[108, 97, 116, 101, 114]⟩ : ByteArray).toList == (⟨#[108, 101, 97, 118, 101]⟩ : ByteArray).toList) = false := by
    rw [ByteArray.toList_eq, ByteArray.toList_eq]; rfl
  have e2 : ((⟨#[108, 97, 116, 101, 114]⟩ : ByteArray).toList == (⟨#[114, 101, 115, 116]⟩ : ByteArray).toList) = false := by
    rw [ByteArray.toList_eq, ByteArray.toList_eq]; rfl
  have e3 : ((⟨#[108, 97, 116, 101, 114]⟩ : ByteArray).toList == (⟨#[119, 97, 105, 116]⟩ : ByteArray).toList) = false := by
    rw [ByteArray.toList_eq, ByteArray.toList_eq]; rfl
  have e4 : ((⟨#[108, 97, 116, 101, 114]⟩ : ByteArray).toList == (⟨#[102, 108, 117, 115, 104]⟩ : ByteArray).toList) = false := by
    rw [ByteArray.toList_eq, ByteArray.toList_eq]; rfl
  have e5 : ((⟨#[108, 97, 116, 101, 114]⟩ : ByteArray).toList == (⟨#[114, 101, 97, 100]⟩ : ByteArray).toList) = false := by
    rw [ByteArray.toList_eq, ByteArray.toList_eq]; rfl
  have e6 : ((⟨#[108, 97, 116, 101, 114]⟩ : ByteArray).toList == (⟨#[112, 117, 116]⟩ : ByteArray).toList) = false := by
    rw [ByteArray.toList_eq, ByteArray.toList_eq]; rfl
  have e7 : ((⟨#[108, 97, 116, 101, 114]⟩ : ByteArray).toList == (⟨#[100, 114, 111, 112]⟩ : ByteArray).toList) = false := by
    rw [ByteArray.toList_eq, ByteArray.toList_eq]; rfl
  have e8 : ((⟨#[108, 97, 116, 101, 114]⟩ : ByteArray).toList == (⟨#[108, 97, 116, 101, 114]⟩ : ByteArray).toList) = true := by simp
  have HS1 := Lib.hid hS1
  have Hq := Lib.hid hq
  have Hcall := Lib.hid hcall
  have Hcf := Lib.hid hcf
  have hbz : w.heap.size ≠ b := by have := lt_of_block hS; omega
  clear E HK hS hq hcf hS1 E1 qx hcall hl9
  go_enter Tryz.func90, Tryz.ntmps90
  go_wp2_with fail
  refine Hcall.out.mono ?_
  rintro e w2 ⟨rfl, rfl⟩
  go_wp2
  go_ret
  refine sop_good Hcf.out ?_ (((show Qh.Mod (fun k => k = b) w _ from Hq.out.any).setCell (fun _ => rfl) _).setCell (fun _ => rfl) _)
  unfold StAt
  rw [Qh.heap_setCell_same (Qh.heap_setCell_same (HS1.out) 1 _) 3 _]; rfl
end Go.Proofs.YtppihkneeolomaaGreatDoor
end
/- package client: a thread's state and an op. -/
section
namespace Go.Proofs.YtppihkneeolomaaGreatDoor
open Go.RowKit Qs Qh
variable {a : Nat → Addr} {w w' : World} {b d : Nat} {r wt u : Bool} {n : Int} {s s' : CSt} {x : ROp}
theorem sop_none (E : ErrsAt w a) (HK : KindsW w) (hS : StAt w b s) (k : ByteArray) (hk : memK kindsC k = false) :
    Calls Tryz.prog 90 #[.pointer (some ⟨b, 0, none⟩), .agg #[.string k, .int .i64 n]] w (SopPost a s (k, n) b w) := by
  have hq := (Mod.refl noF w).alloc (.cells #[.string k, .int .i64 n] 88)
  have hcf : cfOp s (k, n) = (3, s) := by
    unfold cfOp
    simp [hk]
  have E1 := E.keep hq
  obtain ⟨gk, off, cap, q0, qx⟩ := HK.keep hq
  have hcall := containsK2 (w.alloc (.cells #[.string k, .int .i64 n] 88)) gk off cap kindsC k qx (by decide)
  rw [hk] at hcall
  have hl9 : kindsC.length = 9 := rfl
  rw [hl9] at hcall
  have v2 := E1.v2
  have Hq := Lib.hid hq
  have Hcall := Lib.hid hcall
  have Hcf := Lib.hid hcf
  clear E HK hS hq hcf E1 qx hcall hl9 hk
  go_enter Tryz.func90, Tryz.ntmps90
  go_wp2_with fail
  refine Hcall.out.mono ?_
  rintro e w2 ⟨rfl, rfl⟩
  go_wp2
  go_ret
  exact sop_bad 2 Hcf.out (by omega) rfl Hq.out.any
theorem kinds_cases {k : ByteArray} (h : memK kindsC k = true) : k = kEnter ∨ k = kLeave ∨ k = kRest ∨ k = kWait ∨ k = kRead ∨ k = kPut ∨ k = kDrop ∨ k = kLater ∨ k = kFlush := by
  have := memK_iff.1 h
  simpa [kindsC, kEnter, kLeave, kRest, kWait, kRead, kPut, kDrop, kLater, kFlush] using this
theorem sop_any (E : ErrsAt w a) (HK : KindsW w) (hS : StAt w b s) (hd : s.d ≤ 1000) (x : ROp) :
    Calls Tryz.prog 90 #[.pointer (some ⟨b, 0, none⟩), .agg #[.string x.1, .int .i64 x.2]] w (SopPost a s x b w) := by
  obtain ⟨k, n⟩ := x
  cases hk : memK kindsC k with
  | false => exact sop_none E HK hS k hk
  | true =>
    obtain ⟨d, r, wt, u⟩ := s
    simp only at hd
    have hdd : d = 0 ∨ 1 ≤ d := by omega
    rcases kinds_cases hk with rfl | rfl | rfl | rfl | rfl | rfl | rfl | rfl | rfl
    · by_cases hn : n = 0
      · subst hn; exact sop_enter E HK hd hS
      · exact sop_enter_n E HK hn hS
    · by_cases hn : n = 0
      · subst hn
        rcases hdd with rfl | h
        · exact sop_leave_0 E HK hS
        · exact sop_leave E HK h hd hS
      · exact sop_leave_n E HK hn hS
    · by_cases hn : n = 0
      · subst hn
        rcases hdd with rfl | h
        · cases wt
          · exact sop_rest_f E HK hS
          · exact sop_rest_t E HK hS
        · exact sop_rest_d E HK h hS
      · exact sop_rest_n E HK hn hS
    · by_cases hn : n = 0
      · subst hn
        rcases hdd with rfl | h
        · cases wt
          · exact sop_wait_f E HK hS
          · exact sop_wait_t E HK hS
        · exact sop_wait_d E HK h hS
      · exact sop_wait_n E HK hn hS
    · by_cases hn : n = 0
      · subst hn
        rcases hdd with rfl | h
        · exact sop_read_0 E HK hS
        · exact sop_read E HK h hS
      · exact sop_read_n E HK hn hS
    · by_cases hlo : n < 1
      · exact sop_put_lo E HK hlo hS
      · by_cases hhi : 1000 < n
        · exact sop_put_hi E HK hhi hS
        · rcases hdd with rfl | h
          · cases r
            · exact sop_put E HK (by omega) (by omega) hS
            · exact sop_put_r E HK (by omega) (by omega) hS
          · exact sop_put_d E HK (by omega) (by omega) h hS
    · by_cases hn : n = 0
      · subst hn
        cases r
        · exact sop_drop_r E HK hS
        · cases u
          · cases wt
            · exact sop_drop_f E HK hS
            · exact sop_drop_w E HK hS
          · exact sop_drop_u E HK hS
      · exact sop_drop_n E HK hn hS
    · by_cases hn : n = 0
      · subst hn
        cases r
        · exact sop_later_r E HK hS
        · cases u
          · exact sop_later_f E HK hS
          · exact sop_later_u E HK hS
      · exact sop_later_n E HK hn hS
    · by_cases hn : n = 0
      · subst hn
        rcases hdd with rfl | h
        · cases wt
          · exact sop_flush_f E HK hS
          · exact sop_flush_t E HK hS
        · exact sop_flush_d E HK h hS
      · exact sop_flush_n E HK hn hS
end Go.Proofs.YtppihkneeolomaaGreatDoor
end
/- package client: check: over any lists of ops. -/
section
namespace Go.Proofs.YtppihkneeolomaaGreatDoor
open Go.RowKit Qs Qh
variable {N : Nat} {w w' : World} {v u : Value} {ll : List (List ROp)} {l : List ROp} {a : Nat → Addr}
theorem longOpC (w : World) (a : Option Addr) (n c : Nat) (hn : n ≤ maxLen) : Calls Tryz.prog 89 #[.slice a n c] w fun e w' => e = .returned (.bool (decide (20 < n))) ∧ w' = w := by
  by_cases h : 20 < n
  · have d : decide ((20 : Int) < (n : Int)) = true := by simp; omega
    have d2 : decide (20 < n) = true := by simpa using h
    rw [d2]
    go_enter Tryz.func89, Tryz.ntmps89
    go_wp2
    go_ret
    exact ⟨rfl, rfl⟩
  · have d : decide ((20 : Int) < (n : Int)) = false := by simp; omega
    have d2 : decide (20 < n) = false := by simpa using h
    rw [d2]
    go_enter Tryz.func89, Tryz.ntmps89
    go_wp2
    go_ret
    exact ⟨rfl, rfl⟩
theorem indexLongC (H : RIn N w v ll) (hrow : ∀ l ∈ ll, l.length ≤ 30) (hl : ll.length ≤ 1000) :
    Calls Tryz.prog 92 #[v, .func (.func 89) #[] #[]] w (IdlPost ll w) := by
  obtain ⟨a, c, rfl, hx⟩ := H
  have Hx := Lib.hid hx
  have Hrow := Lib.hid hrow
  clear hx hrow
  go_enter Tryz.func92, Tryz.ntmps92
  go_wp2
  go_loop [8] (fun i => ∃ k : Nat, k ≤ ll.length ∧ i = .int .i64 k ∧ ∀ (j : Nat) y, j < k → ll[j]? = some y → y.length ≤ 20) (fun i => ll.length - (intOf i).toNat)
  case atStart => exact ⟨0, Nat.zero_le _, rfl, fun j y h => by omega⟩
  case round =>
    obtain ⟨k, hk, rfl, hall⟩ := hrel
    have Hall := Lib.hid hall
    clear hall
    by_cases hlt : k < ll.length
    · have hd : decide ((k : Int) < (ll.length : Int)) = true := by simp; omega
      have hki : (k : Int) < (ll.length : Int) := by omega
      obtain ⟨l, hl⟩ : ∃ l, ll[k]? = some l := ⟨_, List.getElem?_eq_getElem hlt⟩
      obtain ⟨b, off, u, rfl, hb, hc, ⟨ua, uc, rfl, -⟩⟩ := Hx.out k l hl
      have hmem := List.mem_of_getElem? hl
      have hcall := longOpC w ua l.length uc (by have := Hrow.out l hmem; unfold maxLen; omega)
      have Hl := Lib.hid hl
      have Hmem := Lib.hid hmem
      by_cases h20 : 20 < l.length
      · rw [show decide (20 < l.length) = true by simpa using h20] at hcall
        have Hcall := Lib.hid hcall
        clear hcall hl hmem
        go_wp2_with fail
        refine Hcall.out.mono ?_
        rintro e w' ⟨rfl, rfl⟩
        go_wp2
        go_ret
        exact ⟨_, rfl, rfl, fun h => by have := h l Hmem.out; omega, fun _ => by omega⟩
      · rw [show decide (20 < l.length) = false by simpa using h20] at hcall
        have Hcall := Lib.hid hcall
        clear hcall hl hmem
        go_wp2_with fail
        refine Hcall.out.mono ?_
        rintro e w' ⟨rfl, rfl⟩
        go_wp2
        go_round
        case rel =>
          refine ⟨k + 1, by omega, by go_num, fun j y hj hy => ?_⟩
          by_cases e : j = k
          · subst e
            rw [Hl.out] at hy; cases hy; omega
          · exact Hall.out j y (by omega) hy
        case measure => simp [intOf]; omega
    · have hd : decide ((k : Int) < (ll.length : Int)) = false := by simp; omega
      have hnone : ∀ l ∈ ll, l.length ≤ 20 := fun l hl => by
        obtain ⟨i, hi⟩ := List.getElem?_of_mem hl
        exact Hall.out i l (by have := (List.getElem?_eq_some_iff.1 hi).1; omega) hi
      go_wp2
      go_ret
      exact ⟨-1, rfl, rfl, fun _ => rfl, fun h => absurd hnone h⟩
theorem containsLongC (H : RIn N w v ll) (hrow : ∀ l ∈ ll, l.length ≤ 30) (hl : ll.length ≤ 1000) (b : Bool) (hb : b = true ↔ ¬ ∀ l ∈ ll, l.length ≤ 20) :
    Calls Tryz.prog 66 #[v, .func (.func 89) #[] #[]] w fun e w' => e = .returned (.bool b) ∧ w' = w := by
  have Hcall := Lib.hid (indexLongC H hrow hl)
  clear H hrow
  cases b with
  | true =>
    go_enter Tryz.func66, Tryz.ntmps66
    go_wp2_with fail
    refine Hcall.out.mono ?_
    rintro e w' ⟨n, rfl, rfl, h1, h2⟩
    have d : decide ((0 : Int) ≤ n) = true := by simpa using h2 (by simpa using hb)
    clear h1 h2 hb
    go_wp2
    go_ret
    exact ⟨rfl, rfl⟩
  | false =>
    go_enter Tryz.func66, Tryz.ntmps66
    go_wp2_with fail
    refine Hcall.out.mono ?_
    rintro e w' ⟨n, rfl, rfl, h1, h2⟩
    obtain rfl := h1 (by
      by_cases h : ∀ l ∈ ll, l.length ≤ 20
      · exact h
      · exact absurd (hb.2 h) (by simp))
    clear h1 h2 hb
    go_wp2
    go_ret
    exact ⟨rfl, rfl⟩
theorem cfOp_d (s : CSt) (x : ROp) : (cfOp s x).2.d ≤ s.d + 1 := by
  unfold cfOp
  repeat' split
  all_goals simp <;> omega
set_option maxHeartbeats 4000000 in
theorem ccheck_many (E : ErrsAt w a) (H : RIn N w v ll) (hlen : ll.length ≤ 10) (hrow : ∀ l ∈ ll, l.length ≤ 30) (hm : manyB ll = false) :
    Calls Tryz.prog 62 #[v] w fun e w' => ∃ ev, e = .returned (.tuple #[.bool false, ev]) ∧ ErrIs a w' ev 2 (-1) ∧ Mod noF w w' := by
  have hv := E.v1
  have fin : ∀ w', ErrIs a w' (errV a 1) 2 (-1) := fun w' => .inr (.inl ⟨1, by omega, rfl, rfl, rfl⟩)
  unfold errV at fin
  have Fin := Lib.hid fin
  clear fin E
  by_cases h1 : ll.length < 1
  · obtain ⟨a', c, rfl, hx⟩ := H
    have d1 : decide ((ll.length : Int) < 1) = true := by simp; omega
    clear hx
    go_enter Tryz.func62, Tryz.ntmps62
    go_wp2
    go_region
    go_wp2
    go_ret2
    exact ⟨_, rfl, Fin.out _, by repeat (first | exact Mod.refl _ _ | refine Mod.drew ?_ | refine Mod.drewN ?_ _)⟩
  have d1 : decide ((ll.length : Int) < 1) = false := by simp; omega
  by_cases h6 : 6 < ll.length
  · obtain ⟨a', c, rfl, hx⟩ := H
    have d2 : decide ((6 : Int) < (ll.length : Int)) = true := by simp; omega
    clear hx
    go_enter Tryz.func62, Tryz.ntmps62
    go_wp2
    go_region
    go_wp2
    go_ret2
    exact ⟨_, rfl, Fin.out _, by repeat (first | exact Mod.refl _ _ | refine Mod.drew ?_ | refine Mod.drewN ?_ _)⟩
  have d2 : decide ((6 : Int) < (ll.length : Int)) = false := by simp; omega
  have hcall := containsLongC H hrow (by omega) true ⟨fun _ => by
    rcases manyB_false hm with h | h | h
    · omega
    · omega
    · exact h, fun _ => rfl⟩
  have Hcall := Lib.hid hcall
  obtain ⟨a', c, rfl, hx⟩ := H
  clear hx hcall hrow hm
  go_enter Tryz.func62, Tryz.ntmps62
  go_wp2_with fail
  refine Hcall.out.mono ?_
  rintro e w' ⟨rfl, rfl⟩
  go_wp2
  go_region
  go_wp2
  go_ret2
  exact ⟨_, rfl, Fin.out _, by repeat (first | exact Mod.refl _ _ | refine Mod.drew ?_ | refine Mod.drewN ?_ _)⟩
end Go.Proofs.YtppihkneeolomaaGreatDoor
end
/- package client: check, Check, Safe: over any lists of ops. -/
section
namespace Go.Proofs.YtppihkneeolomaaGreatDoor
open Go.RowKit Qs Qh
variable {N : Nat} {w w' : World} {v u : Value} {ll : List (List ROp)} {l : List ROp} {a : Nat → Addr}
theorem cSafe_row {l : List ROp} {s : CSt} (h : cRun c0 l = (0, s)) : cSafe l = !s.u := by unfold cSafe; rw [h]
theorem cRowF_fault {l : List ROp} {q : Nat} {x : ROp} {s : CSt} (hx : l[q]? = some x) (h : cRun c0 (l.take q) = (0, s)) (hf : (cfOp s x).1 ≠ 0) : cRowF l = some (cfOp s x).1 := by
  have := cRun_fault l q c0 hx h hf
  unfold cRowF
  rw [this, if_pos hf]
theorem cRowF_deep {l : List ROp} {s : CSt} (h : cRun c0 l = (0, s)) (hd : s.d ≠ 0) : cRowF l = some 8 := by
  unfold cRowF
  rw [h]
  simp [hd]
theorem cRowF_fine {l : List ROp} {s : CSt} (h : cRun c0 l = (0, s)) (hd : s.d = 0) : cRowF l = none := by
  unfold cRowF
  rw [h]
  simp [hd]
set_option maxRecDepth 4000 in
set_option maxHeartbeats 16000000 in
theorem ccheck_ok (E : ErrsAt w a) (HK : KindsW w) (H : RIn N w v ll) (hlen : ll.length ≤ 10) (hrow : ∀ l ∈ ll, l.length ≤ 30) (hm : manyB ll = true) :
    Calls Tryz.prog 62 #[v] w fun e w' => ∃ ev, e = .returned (.tuple #[.bool (decide ((allR cRowF 0 ll).1 = 0) && ll.all cSafe), ev]) ∧ ErrIs a w' ev (allR cRowF 0 ll).1 (allR cRowF 0 ll).2 ∧ Mod noF w w' := by
  obtain ⟨hl1, hl6, h20⟩ := manyB_iff.1 hm
  have hcall := containsLongC H hrow (by omega) false (by constructor; (intro h; cases h); exact fun h => absurd h20 h)
  have HH := Lib.hid H
  obtain ⟨a', c, rfl, hx⟩ := H
  have d1 : decide ((ll.length : Int) < 1) = false := by simp; omega
  have d2 : decide ((6 : Int) < (ll.length : Int)) = false := by simp; omega
  obtain ⟨rc, ra, hres0⟩ : ∃ rc ra, allR cRowF 0 ll = (rc, ra) := ⟨_, _, rfl⟩
  rw [hres0]
  have Hres0 := Lib.hid hres0
  simp only
  have Hx := Lib.hid hx
  have H20 := Lib.hid h20
  have HKW := Lib.hid HK
  have HE := Lib.hid E
  have Hcall := Lib.hid hcall
  obtain ⟨res, hres⟩ : ∃ res, (decide (rc = 0) && ll.all cSafe) = res := ⟨_, rfl⟩
  rw [hres]
  have Hres := Lib.hid hres
  clear hx h20 hcall hres0 E hrow hm HK hres
  go_enter Tryz.func62, Tryz.ntmps62
  go_wp2_with fail
  refine Hcall.out.mono ?_
  rintro e w' ⟨rfl, rfl⟩
  go_wp2
  go_loopw [2, 25] (fun b i wr => ∃ k : Nat, k ≤ ll.length ∧ i = .int .i64 k ∧ b = .bool ((ll.take k).all cSafe) ∧ Mod noF w' wr ∧ ∀ (j : Nat) y, j < k → ll[j]? = some y → cRowF y = none) (fun _ i _ => ll.length - (intOf i).toNat)
  case atStart => exact ⟨0, Nat.zero_le _, rfl, rfl, Mod.refl _ _, fun j y h => by omega⟩
  case round =>
    generalize wr = w2 at *
    obtain ⟨k, hk, rfl, rfl, hm, hall⟩ := hrel
    have Hall := Lib.hid hall
    clear hall
    generalize hsf : (ll.take k).all cSafe = sf at *
    have Hsf := Lib.hid hsf
    clear hsf
    by_cases hlt : k < ll.length
    · have hd : decide ((k : Int) < (ll.length : Int)) = true := by simp; omega
      have hki : (k : Int) < (ll.length : Int) := by omega
      obtain ⟨l, hl⟩ : ∃ l, ll[k]? = some l := ⟨_, List.getElem?_eq_getElem hlt⟩
      obtain ⟨b, off, u, rfl, hb, hc, hrow⟩ := Hx.out k l hl
      have hc2 := hm.cell hc (fun e => e)
      obtain ⟨ua, uc, rfl, hxx⟩ := hrow.keep hm (fun _ _ e => e)
      have Hxx := Lib.hid hxx
      have Hm := Lib.hid hm
      have h20l := H20.out l (List.mem_of_getElem? hl)
      have Hl := Lib.hid hl
      clear hxx hrow hc hl hm
      go_wp2
      go_name_world wA hwA
      have hmA : Mod noF w2 wA := by rw [← hwA]; exact (Mod.refl noF w2).alloc _
      have hSA : StAt wA w2.heap.size c0 := by rw [← hwA]; exact heap_alloc_new w2 _
      have HmA := Lib.hid hmA
      have HSA := Lib.hid hSA
      have hlB : w2.heap.size < wA.heap.size := lt_of_block hSA
      clear hmA hSA hwA
      go_loopw [2, 34] (fun b i wq => ∃ q : Nat, q ≤ l.length ∧ i = .int .i64 q ∧ b = .bool sf ∧ ∃ s, cRun c0 (l.take q) = (0, s) ∧ StAt wq w2.heap.size s ∧ s.d ≤ q ∧ Mod (fun x => x = w2.heap.size) wA wq) (fun _ i _ => l.length - (intOf i).toNat)
      case atStart => exact ⟨0, Nat.zero_le _, rfl, rfl, c0, rfl, HSA.out, Nat.le_refl _, Mod.refl _ _⟩
      case round =>
        generalize wr = w3 at *
        obtain ⟨q, hq, rfl, rfl, s, hrun, hS, hsd, hm2⟩ := hrel
        have Hrun := Lib.hid hrun
        have HS := Lib.hid hS
        have hmw : Mod noF w' w3 := (Hm.out.trans0 HmA.out).trans hm2 (fun x hx e => by have := Hm.out.size; omega)
        have Hmw := Lib.hid hmw
        clear hrun
        by_cases hlq : q < l.length
        · have hd2 : decide ((q : Int) < (l.length : Int)) = true := by simp; omega
          have hqi : (q : Int) < (l.length : Int) := by omega
          obtain ⟨x, hxl⟩ : ∃ x, l[q]? = some x := ⟨_, List.getElem?_eq_getElem hlq⟩
          obtain ⟨ub, uoff, rfl, hub, h0, h1⟩ := Hxx.out q x hxl
          have hmm : Mod noF w2 w3 := HmA.out.trans hm2 (fun x hx e => by omega)
          have h0 := hmm.cell h0 (fun e => e)
          have h1 := hmm.cell h1 (fun e => e)
          have Hm2 := Lib.hid hm2
          have Hxl := Lib.hid hxl
          have hq4 := (Mod.refl noF w3).alloc (.cells #[.string x.1, .int .i64 x.2] 88)
          have hcal := sop_any ((HE.out.keep hmw).keep hq4) ((HKW.out.keep hmw).keep hq4) (hq4.heap hS (fun e => e)) (by omega) x
          have Hcal := Lib.hid hcal
          have hlb3 := lt_of_block hS
          clear hxl hm2 hS hmw hmm hq4 hcal
          obtain ⟨xs, xn⟩ := x
          simp only at h0 h1
          go_wp2_with fail
          refine Hcal.out.mono ?_
          rintro e w5 ⟨ev, rfl, hz, hnz, hm5⟩
          have hm35 : Mod (fun x => x = w2.heap.size) w3 w5 := ((Mod.refl noF w3).alloc (.cells #[.string xs, .int .i64 xn] 88)).any.trans hm5 (fun x _ e => e)
          have hmw5 : Mod noF w' w5 := Hmw.out.trans hm35 (fun x hx e => by have := Hm.out.size; omega)
          by_cases hcf : (cfOp s (xs, xn)).1 = 0
          · obtain ⟨rfl, hS5⟩ := hz hcf
            have hts := cRun_take_succ l q c0 Hxl.out Hrun.out
            rw [if_neg (by rw [hcf]; exact fun h => h rfl)] at hts
            have hdd := cfOp_d s (xs, xn)
            have Hts := Lib.hid hts
            have HS5 := Lib.hid hS5
            have Hm35 := Lib.hid (Hm2.out.trans hm35 (fun x _ e => e))
            clear hz hnz hm5 hm35 hmw5 hcf hts hS5
            go_wp2
            go_roundw
            case rel => exact ⟨q + 1, by omega, by go_num, rfl, _, Hts.out, HS5.out, by omega, Hm35.out⟩
            case measure => simp [intOf]; omega
          · obtain ⟨i, hi9, hci, rfl⟩ := hnz hcf
            have hrF := cRowF_fault Hxl.out Hrun.out hcf
            rw [hci] at hrF
            have hre := allR_at ll 0 k l _ Hl.out Hall.out hrF
            rw [Nat.zero_add] at hre
            obtain ⟨rfl, rfl⟩ := Prod.mk.inj (Hres0.out.symm.trans hre)
            have hrs : res = false := by rw [← Hres.out]; simp; omega
            subst hrs
            have Hmw5 := Lib.hid hmw5
            unfold errV
            clear hz hnz hm5 hm35 hmw5 hcf hci hrF hre
            go_wp2
            go_ret2
            exact ⟨_, rfl, .inr (.inr ⟨i, _, hi9, rfl, rfl, by simp, by simp, by simp [errV]⟩), (Hmw5.out).alloc _⟩
        · have hd2 : decide ((q : Int) < (l.length : Int)) = false := by simp; omega
          obtain rfl : q = l.length := by omega
          have hrun := Hrun.out
          rw [List.take_length] at hrun
          have s0 := cell_of_heap hS 0
          have s3 := cell_of_heap hS 3
          replace s0 : w3.cell? ⟨w2.heap.size, 0, none⟩ = some (.int .i64 (s.d : Int)) := s0
          replace s3 : w3.cell? ⟨w2.heap.size, 3, none⟩ = some (.bool s.u) := s3
          have v7 := (HE.out.keep hmw).v7
          by_cases hdp : s.d = 0
          · have hrF := cRowF_fine hrun hdp
            have hsr := cSafe_row hrun
            rw [hdp] at s0
            have d3 : decide ((0 : Int) < ((0 : Nat) : Int)) = false := by decide
            have HrF := Lib.hid hrF
            have Hsr := Lib.hid hsr
            have htk : ll.take (k + 1) = ll.take k ++ [l] := by rw [List.take_add_one, Hl.out]; rfl
            have Htk := Lib.hid htk
            clear hrun hS hm2 hdp hrF hsr hmw htk
            cases hsu : s.u with
            | true =>
              rw [hsu] at s3
              have hnx : (ll.take (k + 1)).all cSafe = false := by rw [Htk.out, List.all_append]; simp [Hsr.out, hsu]
              have Hnx := Lib.hid hnx
              cases sf with
              | true =>
                clear hnx
                go_wp2
                go_roundw
                case rel =>
                  refine ⟨k + 1, by omega, by go_num, by rw [Hnx.out], Hmw.out, fun j y hj hy => ?_⟩
                  by_cases e : j = k
                  · subst e
                    rw [Hl.out] at hy; cases hy; exact HrF.out
                  · exact Hall.out j y (by omega) hy
                case measure => simp [intOf]; omega
              | false =>
                clear hnx
                go_wp2
                go_roundw
                case rel =>
                  refine ⟨k + 1, by omega, by go_num, by rw [Hnx.out], Hmw.out, fun j y hj hy => ?_⟩
                  by_cases e : j = k
                  · subst e
                    rw [Hl.out] at hy; cases hy; exact HrF.out
                  · exact Hall.out j y (by omega) hy
                case measure => simp [intOf]; omega
            | false =>
              rw [hsu] at s3
              have hnx : (ll.take (k + 1)).all cSafe = sf := by rw [Htk.out, List.all_append, Hsf.out]; simp [Hsr.out, hsu]
              have Hnx := Lib.hid hnx
              cases sf with
              | true =>
                clear hnx
                go_wp2
                go_roundw
                case rel =>
                  refine ⟨k + 1, by omega, by go_num, by rw [Hnx.out], Hmw.out, fun j y hj hy => ?_⟩
                  by_cases e : j = k
                  · subst e
                    rw [Hl.out] at hy; cases hy; exact HrF.out
                  · exact Hall.out j y (by omega) hy
                case measure => simp [intOf]; omega
              | false =>
                clear hnx
                go_wp2
                go_roundw
                case rel =>
                  refine ⟨k + 1, by omega, by go_num, by rw [Hnx.out], Hmw.out, fun j y hj hy => ?_⟩
                  by_cases e : j = k
                  · subst e
                    rw [Hl.out] at hy; cases hy; exact HrF.out
                  · exact Hall.out j y (by omega) hy
                case measure => simp [intOf]; omega
          · obtain ⟨z, hz⟩ : ∃ z : Int, (s.d : Int) = z := ⟨_, rfl⟩
            rw [hz] at s0
            have d3 : decide (0 < z) = true := by simp; omega
            clear hz
            have hrF := cRowF_deep hrun hdp
            have hre := allR_at ll 0 k l _ Hl.out Hall.out hrF
            rw [Nat.zero_add] at hre
            obtain ⟨rfl, rfl⟩ := Prod.mk.inj (Hres0.out.symm.trans hre)
            have hrs : res = false := by rw [← Hres.out]; simp
            subst hrs
            clear hrun hS hm2 hdp hrF hre hmw
            go_wp2
            refine wp_region_held_drew (S := (fun W => W.cell? ⟨7, 0, none⟩ = some (.iface 225 (.pointer (some (a 7)))))) (by kernel_rfl) ((Mod.refl noF _).drew.cell v7 (fun e => e)) (fun hHeld => ?_)
            refine wpAnyH_take (i := 0) (oi := ?oZ0) (v := ?vZ0) ?qZ0 (by kernel_rfl) ?fZ0 ?gZ0 ?pZ0 ?uZ0 (by assumption) ?rZ0
            case qZ0 => (rw [List.getElem?_toArray]; rfl)
            case fZ0 => kernel_rfl
            case gZ0 => kernel_rfl
            case pZ0 => exact (fun _ _ _ h => h)
            case uZ0 => (refine Or.inl ⟨by rfl, ?_⟩; intro w hSw; (try dsimp only at hSw); go_simp; (try rw [if_neg (by omega)]); try with_reducible rfl)
            try simp only [Act.put, List.setIfInBounds_toArray, List.set_cons_zero, List.set_cons_succ]
            refine wpAnyH_take (i := 1) (oi := ?oZ1) (v := ?vZ1) ?qZ1 (by kernel_rfl) ?fZ1 ?gZ1 ?pZ1 ?uZ1 (by assumption) ?rZ1
            case qZ1 => (rw [List.getElem?_toArray]; rfl)
            case fZ1 => kernel_rfl
            case gZ1 => kernel_rfl
            case pZ1 => exact (fun _ _ _ h => h)
            case uZ1 => (refine Or.inl ⟨by rfl, ?_⟩; intro w hSw; (try dsimp only at hSw); go_simp; (try rw [if_neg (by omega)]); try with_reducible rfl)
            try simp only [Act.put, List.setIfInBounds_toArray, List.set_cons_zero, List.set_cons_succ]
            refine wpAnyH_take (i := 2) (oi := ?oZ2) (v := ?vZ2) ?qZ2 (by kernel_rfl) ?fZ2 ?gZ2 ?pZ2 ?uZ2 (by assumption) ?rZ2
            case qZ2 => (rw [List.getElem?_toArray]; rfl)
            case fZ2 => kernel_rfl
            case gZ2 => kernel_rfl
            case pZ2 => exact (fun _ _ _ h => h)
            case uZ2 => (refine Or.inl ⟨by rfl, ?_⟩; intro w hSw; (try dsimp only at hSw); go_simp; (try rw [if_neg (by omega)]); try with_reducible rfl)
            try simp only [Act.put, List.setIfInBounds_toArray, List.set_cons_zero, List.set_cons_succ]
            refine wpAnyH_take (i := 5) (oi := ?oZ5) (v := ?vZ5) ?qZ5 (by kernel_rfl) ?fZ5 ?gZ5 ?pZ5 ?uZ5 (by assumption) ?rZ5
            case qZ5 => (rw [List.getElem?_toArray]; rfl)
            case fZ5 => kernel_rfl
            case gZ5 => kernel_rfl
            case pZ5 => exact (fun _ _ _ h => h)
            case uZ5 => (refine Or.inl ⟨by rfl, ?_⟩; intro w hSw; (try dsimp only at hSw); go_simp; (try rw [if_neg (by omega)]); try with_reducible rfl)
            try simp only [Act.put, List.setIfInBounds_toArray, List.set_cons_zero, List.set_cons_succ]
            refine wpAnyH_ready (rs := [3]) (by kernel_rfl) (by simp) ?_
            refine AllReadyH.cons rfl (fun K hK => ?_) AllReadyH.nil
            go_simp
            refine Shut.out hK _ _ (((Mod.refl noF _).alloc _).cell hHeld (fun e => e)) (fun hS4 => ?_)
            try simp only [Act.put, List.setIfInBounds_toArray, List.set_cons_zero, List.set_cons_succ]
            refine wpAnyH_take (i := 4) (oi := ?oZ4) (v := ?vZ4) ?qZ4 (by kernel_rfl) ?fZ4 ?gZ4 ?pZ4 ?uZ4 (by assumption) ?rZ4
            case qZ4 => (rw [List.getElem?_toArray]; rfl)
            case fZ4 => kernel_rfl
            case gZ4 => kernel_rfl
            case pZ4 => exact (fun _ _ _ h => h)
            case uZ4 => (refine Or.inl ⟨by rfl, ?_⟩; intro w hSw; (try dsimp only at hSw); go_simp; (try rw [if_neg (by omega)]); try with_reducible rfl)
            try simp only [Act.put, List.setIfInBounds_toArray, List.set_cons_zero, List.set_cons_succ]
            refine wpAnyH_take (i := 6) (oi := ?oZ6) (v := ?vZ6) ?qZ6 (by kernel_rfl) ?fZ6 ?gZ6 ?pZ6 ?uZ6 (by assumption) ?rZ6
            case qZ6 => (rw [List.getElem?_toArray]; rfl)
            case fZ6 => kernel_rfl
            case gZ6 => kernel_rfl
            case pZ6 => exact (fun _ _ _ h => h)
            case uZ6 => (refine Or.inl ⟨by rfl, ?_⟩; intro w hSw; (try dsimp only at hSw); go_simp; (try rw [if_neg (by omega)]); try with_reducible rfl)
            try simp only [Act.put, List.setIfInBounds_toArray, List.set_cons_zero, List.set_cons_succ]
            refine wpAnyH_done (by kernel_rfl) ?_ _
            go_wp2
            go_ret2
            exact ⟨_, rfl, .inr (.inr ⟨7, _, by omega, rfl, rfl, by simp, by simp, by simp [errV]⟩), by repeat (first | exact Hmw.out | refine Mod.drew ?_ | refine Mod.drewN ?_ _ | refine Mod.alloc ?_ _)⟩
    · have hd : decide ((k : Int) < (ll.length : Int)) = false := by simp; omega
      have hre := allR_none (rf := cRowF) ll 0 fun j y hj => Hall.out j y (by have := (List.getElem?_eq_some_iff.1 hj).1; omega) hj
      obtain ⟨rfl, rfl⟩ := Prod.mk.inj (Hres0.out.symm.trans hre)
      have hsf := Hsf.out
      rw [List.take_of_length_le (by omega)] at hsf
      have hrs : res = sf := by rw [← Hres.out, hsf]; simp
      subst hrs
      have Hm := Lib.hid hm
      clear hm hre hsf
      go_wp2
      go_ret2
      exact ⟨_, rfl, .inl ⟨rfl, rfl, rfl⟩, Hm.out⟩
theorem ccheck (E : ErrsAt w a) (HK : KindsW w) (H : RIn N w v ll) (hlen : ll.length ≤ 10) (hrow : ∀ l ∈ ll, l.length ≤ 30) :
    Calls Tryz.prog 62 #[v] w fun e w' => ∃ ev, e = .returned (.tuple #[.bool (csG ll), ev]) ∧ ErrIs a w' ev (cfG ll).1 (cfG ll).2 ∧ Mod noF w w' := by
  unfold csG cfG
  cases hm : manyB ll with
  | false => exact ccheck_many E H hlen hrow hm
  | true => exact ccheck_ok E HK H hlen hrow hm
theorem cCheck (E : ErrsAt w a) (HK : KindsW w) (H : RIn N w v ll) (hlen : ll.length ≤ 10) (hrow : ∀ l ∈ ll, l.length ≤ 30) :
    Calls Tryz.prog 37 #[v] w fun e w' => ∃ ev, e = .returned ev ∧ ErrIs a w' ev (cfG ll).1 (cfG ll).2 ∧ Mod noF w w' := by
  have Hcall := Lib.hid (ccheck E HK H hlen hrow)
  generalize csG ll = sb at *
  clear E HK H hrow
  go_enter Tryz.func37, Tryz.ntmps37
  go_wp2_with fail
  refine Hcall.out.mono ?_
  rintro e w1 ⟨ev, rfl, hE, hm⟩
  have HE1 := Lib.hid hE
  have Hm := Lib.hid hm
  clear hE hm
  go_wp2
  go_ret
  exact ⟨ev, rfl, HE1.out, Hm.out⟩
end Go.Proofs.YtppihkneeolomaaGreatDoor
end
/- Clients' ops: their code; their names. -/
section
namespace Qc
open Qs Qu Go.Proofs.YtppihkneeolomaaGreatDoor
def copsCode (f tn : Nat) : Nat → List COp → List Instr
  | _, [] => []
  | k, x :: l => cblk f tn k x ++ copsCode f tn (k + cinc x) l
def clabs : List COp → Nat
  | [] => 0
  | x :: l => cinc x + clabs l
theorem clabs_snoc (x : COp) : ∀ l, clabs (l ++ [x]) = clabs l + cinc x
  | [] => by simp [clabs]
  | y :: l => by simp only [List.cons_append, clabs, clabs_snoc x l]; omega
theorem clabs_le : ∀ l, clabs l ≤ 3 * l.length
  | [] => by simp [clabs]
  | x :: l => by
    have := clabs_le l
    have h : cinc x ≤ 3 := by cases x <;> simp [cinc]
    simp only [clabs, List.length_cons]; omega
theorem copsCode_snoc (f tn : Nat) (x : COp) : ∀ (l : List COp) (k : Nat), copsCode f tn k (l ++ [x]) = copsCode f tn k l ++ cblk f tn (k + clabs l) x
  | [], k => by simp [copsCode, clabs]
  | y :: l, k => by
    rw [List.cons_append, copsCode, copsCode, copsCode_snoc f tn x l, List.append_assoc]
    simp only [clabs]
    rw [show k + cinc y + clabs l = k + (cinc y + clabs l) by omega]
theorem part_len2 {f j : Nat} (h4 : f ≤ 4) (hj : j < 5) (k : Nat) : (part f k j).length ≤ 70 := by unfold part preC; rw [List.length_map]; exact gcode_len h4 hj
theorem cblk_len {f : Nat} (h4 : f ≤ 4) (tn k : Nat) (x : COp) : (cblk f tn k x).length ≤ 80 := by
  cases x with
  | enter => have := part_len2 h4 (show 0 < 5 by decide) k; show (part f k 0).length ≤ 80; omega
  | leave => have := part_len2 h4 (show 1 < 5 by decide) k; show (part f k 1).length ≤ 80; omega
  | rest => have := part_len2 h4 (show 2 < 5 by decide) k; show (part f k 2).length ≤ 80; omega
  | wait => have := part_len2 h4 (show 4 < 5 by decide) k; show (part f k 4).length ≤ 80; omega
  | flush =>
    have := part_len2 h4 (show 4 < 5 by decide) k
    show (part f k 4 ++ flushTail (labN (k + 2)) (labN (k + 3)) tn 1).length ≤ 80
    rw [List.length_append]
    simp only [flushTail, List.length_cons, List.length_nil]; omega
  | read => simp [cblk, readBlk]
  | put n => simp [cblk, putBlkC]
  | drop => simp [cblk, dropBlk]
  | later => simp [cblk, laterBlk]
theorem copsCode_len {f : Nat} (h4 : f ≤ 4) (tn : Nat) : ∀ (l : List COp) (k : Nat), (copsCode f tn k l).length ≤ 80 * l.length
  | [], k => by simp [copsCode]
  | x :: l, k => by
    have h1 := copsCode_len h4 tn l (k + cinc x)
    have h2 := cblk_len h4 tn k x
    simp only [copsCode, List.length_append, List.length_cons]; omega
/-- A thread's code. -/
def ccode (f tn : Nat) (ops : List COp) : List Instr := (copsCode f tn 0 ops ++ part f (clabs ops) 3) ++ [⟨20, 0, 0, 0, []⟩]
end Qc
namespace Go.Proofs.YtppihkneeolomaaGreatDoor
open Go.RowKit Qs Qh Qc
def cK : COp → ByteArray
  | .enter => kEnter
  | .leave => kLeave
  | .rest => kRest
  | .wait => kWait
  | .read => kRead
  | .put _ => kPut
  | .drop => kDrop
  | .later => kLater
  | .flush => kFlush
def cN : COp → Int
  | .put n => n
  | _ => 0
def cR (x : COp) : ROp := (cK x, cN x)
def rawC (q : List (List COp)) : List (List ROp) := q.map (·.map cR)
def toC (x : ROp) : COp :=
  if x.1 = kEnter then .enter else if x.1 = kLeave then .leave else if x.1 = kRest then .rest else if x.1 = kWait then .wait else if x.1 = kRead then .read
  else if x.1 = kPut then .put x.2 else if x.1 = kDrop then .drop else if x.1 = kLater then .later else .flush
theorem toC_ok {s : CSt} {x : ROp} (h : (cfOp s x).1 = 0) : cR (toC x) = x ∧ ∀ n, toC x = .put n → 1 ≤ n ∧ n ≤ 1000 := by
  obtain ⟨k, n⟩ := x
  have hm : memK kindsC k = true := by
    cases e : memK kindsC k with
    | true => rfl
    | false => unfold cfOp at h; simp [e] at h
  by_cases hp : k = kPut
  · subst hp
    have hb : ¬ (n < 1 ∨ 1000 < n) := fun e => by unfold cfOp at h; simp [hm, e] at h
    have ht : toC (kPut, n) = .put n := by unfold toC; simp [kEnter, kLeave, kRest, kWait, kRead, kPut]
    rw [ht]
    refine ⟨rfl, fun m e => ?_⟩
    cases e
    omega
  · have hn : n = 0 := by
      by_cases e : n = 0
      · exact e
      · unfold cfOp at h; simp [hm, hp, e] at h
    subst hn
    rcases kinds_cases hm with rfl | rfl | rfl | rfl | rfl | rfl | rfl | rfl | rfl
    all_goals first
      | exact absurd rfl hp
      | (refine ⟨?_, fun m e => ?_⟩
         · simp [toC, cR, cK, cN, kEnter, kLeave, kRest, kWait, kRead, kPut, kDrop, kLater, kFlush]
         · simp [toC, kEnter, kLeave, kRest, kWait, kRead, kPut, kDrop, kLater, kFlush] at e)
theorem cRun_all : ∀ (l : List ROp) (s : CSt), (cRun s l).1 = 0 → ∀ x ∈ l, ∃ s', (cfOp s' x).1 = 0
  | [], s, _ => fun x hx => by cases hx
  | y :: l, s, h => fun x hx => by
    unfold cRun at h
    by_cases hf : (cfOp s y).1 ≠ 0
    · rw [if_pos hf] at h; exact absurd h hf
    · rw [if_neg hf] at h
      rcases List.mem_cons.1 hx with rfl | hx
      · exact ⟨s, by omega⟩
      · exact cRun_all l _ h x hx
/-- Lists without a fault, as they come in. -/
theorem good_rawC {ll : List (List ROp)} (h : (cfG ll).1 = 0) : ∃ q : List (List COp), ll = rawC q ∧ 1 ≤ q.length ∧ q.length ≤ 6 ∧ (∀ l ∈ q, l.length ≤ 20) ∧ (∀ l ∈ q, ∀ n, COp.put n ∈ l → 1 ≤ n ∧ n ≤ 1000) ∧ ∀ l ∈ q, cRowF (l.map cR) = none := by
  have hz := cfG_num ll
  unfold cfG at h hz
  cases hm : manyB ll with
  | false => rw [hm] at h; simp at h
  | true =>
    rw [hm] at h hz
    simp only [if_true] at h hz
    obtain ⟨h1, h6, h20⟩ := manyB_iff.1 hm
    have hall : ∀ l ∈ ll, cRowF l = none := by
      rcases allR_cases (rf := cRowF) ll 0 with ⟨_, h2⟩ | ⟨k, l', c, g1, g2, g3, g4⟩
      · exact h2
      · rw [g3] at h
        have := cRowF_num g2
        simp only at h
        omega
    have hx : ∀ l ∈ ll, ∀ x ∈ l, cR (toC x) = x ∧ ∀ n, toC x = .put n → 1 ≤ n ∧ n ≤ 1000 := fun l hl x hx => by
      have hr := hall l hl
      have h0 : (cRun c0 l).1 = 0 := by
        unfold cRowF at hr
        by_cases e : (cRun c0 l).1 ≠ 0
        · rw [if_pos e] at hr; cases hr
        · omega
      obtain ⟨s', hs⟩ := cRun_all l c0 h0 x hx
      exact toC_ok hs
    have hmap : ∀ l ∈ ll, (l.map toC).map cR = l := fun l hl => by
      rw [List.map_map]
      conv => rhs; rw [← List.map_id l]
      exact List.map_congr_left fun x hx' => (hx l hl x hx').1
    refine ⟨ll.map (·.map toC), ?_, by simpa using h1, by simpa using h6, fun l hl => ?_, fun l hl n hn => ?_, fun l hl => ?_⟩
    · unfold rawC
      rw [List.map_map]
      conv => lhs; rw [← List.map_id ll]
      exact List.map_congr_left fun l hl => (hmap l hl).symm
    · obtain ⟨l', hl', rfl⟩ := List.mem_map.1 hl
      rw [List.length_map]; exact h20 l' hl'
    · obtain ⟨l', hl', rfl⟩ := List.mem_map.1 hl
      obtain ⟨x, hx', e⟩ := List.mem_map.1 hn
      exact (hx l' hl' x hx').2 n e
    · obtain ⟨l', hl', rfl⟩ := List.mem_map.1 hl
      rw [hmap l' hl']; exact hall l' hl'
variable {N0 K tn f : Nat} {big : Prop} {w w1 w2 : World} {b k : Nat} {v v1 v2 : Value} {l : List Instr}
theorem cop_any (x : COp) (HF : FreshH N0 big f (tn : Nat) 1 K) (hT : big → lowT N0) (h1 : 1 ≤ f) (h4 : f ≤ 4) (htn : tn < 6) (M : MkA N0 big f (tn : Nat) 1 w b v l k) (hk : k + 3 < K) (hK : K ≤ 120) (hl : l.length ≤ 80000) :
    Calls Tryz.prog 58 #[.pointer (some ⟨b, 0, none⟩), .agg #[.string (cK x), .int .i64 (cN x)]] w fun e w' => e = .returned (.tuple #[]) ∧ ∃ v', MkA N0 big f (tn : Nat) 1 w' b v' (l ++ cblk f tn k x) (k + cinc x) ∧ MkStep w b v w' v' := by
  cases x with
  | enter => exact cop_enter HF hT h1 h4 htn M hk hK hl
  | leave => exact cop_leave HF hT h1 h4 htn M hk hK hl
  | rest => exact cop_rest HF hT h1 h4 htn M hk hK hl
  | wait => exact cop_wait HF hT h1 h4 htn M hk hK hl
  | read => exact cop_read HF hT h1 h4 htn M hk hK hl
  | put n => exact cop_put n HF hT h1 h4 htn M hk hK hl
  | drop => exact cop_drop HF hT h1 h4 htn M hk hK hl
  | later => exact cop_later HF hT h1 h4 htn M hk hK hl
  | flush => exact cop_flush HF hT h1 h4 htn M hk hK hl
end Go.Proofs.YtppihkneeolomaaGreatDoor
end
/- client.Build: what it makes, in plain. -/
section
namespace Qc
open Qs Qu Go.Proofs.YtppihkneeolomaaGreatDoor
def gReg3 (n t : Nat) : List Int := [0, 0, 0, 0, 0, (n : Int) + 5, (t : Int) + 1, (n : Int) + 1]
def cInit (f n : Nat) : List (List Int) := rowsF (gOwnC f) n ++ [gHubC f n] ++ [[1]] ++ [[]] ++ [[]] ++ [[(n : Int) + 2, (n : Int) + 3, (n : Int) + 4]]
def cRegs (n : Nat) : List (List Int) := rowsF (gReg3 n) n
def cCs (f : Nat) (q : List (List COp)) (t : Nat) : List Instr := ccode f t (q.getD t [])
def cCodes (f : Nat) (q : List (List COp)) : List (List Instr) := (List.range q.length).map (cCs f q)
theorem gReg_step (n t : Nat) : (gReg2 n t).set 5 ((n : Int) + 5) = gReg3 n t := rfl
theorem cInit_len (f n : Nat) : (cInit f n).length = n + 5 := by simp [cInit, rowsF_len]
theorem cInit_all (f n : Nat) : ∀ l ∈ cInit f n, l.length ≤ 4 := fun l hl => by
  simp only [cInit, List.mem_append, List.mem_singleton] at hl
  rcases hl with ((((h | h) | h) | h) | h) | h
  · obtain ⟨i, -, rfl⟩ := List.mem_map.1 h
    simp [gOwnC]
  all_goals subst h; simp [gHubC]
theorem cInit_rows (f n : Nat) : ∀ l ∈ cInit f n, l.length ≤ 100 := fun l hl => Nat.le_trans (cInit_all f n l hl) (by decide)
theorem cRegs_len (n : Nat) : (cRegs n).length = n := rowsF_len
theorem cCodes_len (f : Nat) (q : List (List COp)) : (cCodes f q).length = q.length := by simp [cCodes]
theorem cCs_get {f t : Nat} {q : List (List COp)} {l : List COp} (h : q[t]? = some l) : cCs f q t = ccode f t l := by unfold cCs; rw [List.getD_eq_getElem?_getD, h]; rfl
end Qc
end
/- Clients' code is right. -/
section
namespace Qc
open Qs Qu Qh Go.Proofs.YtppihkneeolomaaGreatDoor
theorem read_fine (k : Nat) : BlkF k k readBlk := by
  refine ⟨fun x hx => ?_, fun i x hi h17 => ?_, fun x hx hxe => ?_, fun x hx => ?_⟩
  · simp only [readBlk, List.mem_cons, List.not_mem_nil, or_false] at hx
    rcases hx with rfl | rfl | rfl | rfl <;> rfl
  · match i, hi with
    | 0, hi => cases hi; simp at h17
    | 1, hi => cases hi; simp at h17
    | 2, hi => cases hi; simp at h17
    | 3, hi => cases hi; simp at h17
    | i + 4, hi => simp [readBlk] at hi
  all_goals
    simp only [readBlk, List.mem_cons, List.not_mem_nil, or_false] at hx
    rcases hx with rfl | rfl | rfl | rfl
    all_goals first
      | exact absurd rfl hxe
      | exact .inl rfl
theorem put_fine (n : Int) (hn : 1 ≤ n ∧ n ≤ 1000) (k : Nat) (hk : k < 127) : BlkF k (k + 1) (putBlkC (labN (k + 1)) n) := by
  have hnm := (labN_facts (k + 1) (by omega)).2.2.1
  have hne := Qh.nameB_ne hnm
  have o1 : OwnBy (k + 1) (labN (k + 1)) := OwnBy.self (by omega)
  generalize hL : labN (k + 1) = L at *
  have r1 : regB n 4294967296 = true := by unfold regB; simp; omega
  have hl6 : labelAt L (putBlkC L n) 0 = some 6 := by simp [putBlkC, labelAt]
  refine ⟨fun x hx => ?_, fun i x hi h17 => ?_, fun x hx hxe => ?_, fun x hx => ?_⟩
  · simp only [putBlkC, List.mem_cons, List.not_mem_nil, or_false] at hx
    rcases hx with rfl | rfl | rfl | rfl | rfl | rfl | rfl
    · rfl
    · show (regB 4 8 && z0 0 && z0 0 && nameB L) = true; rw [hnm]; rfl
    · show (regB 0 8 && regB n 4294967296 && z0 0 && true) = true; rw [r1]; rfl
    · rfl
    · rfl
    · rfl
    · show (z0 0 && z0 0 && z0 0 && nameB L) = true; rw [hnm]; rfl
  · match i, hi with
    | 0, hi => cases hi; simp at h17
    | 1, hi => cases hi; simp at h17
    | 2, hi => cases hi; simp at h17
    | 3, hi => cases hi; simp at h17
    | 4, hi => cases hi; simp at h17
    | 5, hi => cases hi; simp at h17
    | 6, hi => cases hi; exact hl6
    | i + 7, hi => simp [putBlkC] at hi
  · simp only [putBlkC, List.mem_cons, List.not_mem_nil, or_false] at hx
    rcases hx with rfl | rfl | rfl | rfl | rfl | rfl | rfl
    all_goals first
      | exact absurd rfl hxe
      | (simp only; rw [hl6]; rfl)
  · simp only [putBlkC, List.mem_cons, List.not_mem_nil, or_false] at hx
    rcases hx with rfl | rfl | rfl | rfl | rfl | rfl | rfl
    all_goals first
      | exact .inl rfl
      | exact .inr ⟨k + 1, by omega, by omega, o1⟩
theorem drop_fine (k : Nat) (hk : k < 127) : BlkF k (k + 1) (dropBlk (labN (k + 1))) := by
  have hnm := (labN_facts (k + 1) (by omega)).2.2.1
  have hne := Qh.nameB_ne hnm
  have o1 : OwnBy (k + 1) (labN (k + 1)) := OwnBy.self (by omega)
  generalize hL : labN (k + 1) = L at *
  have hl6 : labelAt L (dropBlk L) 0 = some 3 := by simp [dropBlk, labelAt]
  refine ⟨fun x hx => ?_, fun i x hi h17 => ?_, fun x hx hxe => ?_, fun x hx => ?_⟩
  · simp only [dropBlk, List.mem_cons, List.not_mem_nil, or_false] at hx
    rcases hx with rfl | rfl | rfl | rfl
    · show (regB 3 8 && z0 0 && z0 0 && nameB L) = true; rw [hnm]; rfl
    · rfl
    · rfl
    · show (z0 0 && z0 0 && z0 0 && nameB L) = true; rw [hnm]; rfl
  · match i, hi with
    | 0, hi => cases hi; simp at h17
    | 1, hi => cases hi; simp at h17
    | 2, hi => cases hi; simp at h17
    | 3, hi => cases hi; exact hl6
    | i + 4, hi => simp [dropBlk] at hi
  · simp only [dropBlk, List.mem_cons, List.not_mem_nil, or_false] at hx
    rcases hx with rfl | rfl | rfl | rfl
    all_goals first
      | exact absurd rfl hxe
      | (simp only; rw [hl6]; rfl)
  · simp only [dropBlk, List.mem_cons, List.not_mem_nil, or_false] at hx
    rcases hx with rfl | rfl | rfl | rfl
    all_goals first
      | exact .inl rfl
      | exact .inr ⟨k + 1, by omega, by omega, o1⟩
theorem cblk_fine {f : Nat} (h1 : 1 ≤ f) (h4 : f ≤ 4) (tn : Nat) (ht : tn < 8) (k : Nat) (hk : k + 3 < 128) (x : COp) (hx : ∀ n, x = .put n → 1 ≤ n ∧ n ≤ 1000) : BlkF k (k + cinc x) (cblk f tn k x) := by
  cases x with
  | enter => exact part_fine h1 h4 (by decide) k (by omega)
  | leave => exact part_fine h1 h4 (by decide) k (by omega)
  | rest => exact part_fine h1 h4 (by decide) k (by omega)
  | wait => exact part_fine h1 h4 (by decide) k (by omega)
  | read => exact read_fine k
  | put n => exact put_fine n (hx n rfl) k (by omega)
  | drop => exact drop_fine k (by omega)
  | later => exact later_fine tn 1 ht (by omega) k (by omega)
  | flush => exact flushBlk_fine h1 h4 tn 1 ht (by omega) k (by omega)
theorem copsCode_fine {f : Nat} (h1 : 1 ≤ f) (h4 : f ≤ 4) (tn : Nat) (ht : tn < 8) : ∀ (l : List COp) (k : Nat), (∀ n, COp.put n ∈ l → 1 ≤ n ∧ n ≤ 1000) → k + clabs l + 3 < 128 → BlkF k (k + clabs l) (copsCode f tn k l)
  | [], k, _, _ => by simpa [copsCode, clabs] using BlkF.nil k
  | x :: l, k, hp, hk => by
    simp only [clabs] at hk
    have ih := copsCode_fine h1 h4 tn ht l (k + cinc x) (fun n hn => hp n (List.mem_cons_of_mem _ hn)) (by omega)
    have hb := cblk_fine h1 h4 tn ht k (by omega) x (fun n hn => hp n (by rw [hn]; simp))
    have := hb.append ih (by omega) (by omega)
    simp only [clabs, copsCode]
    rw [show k + (cinc x + clabs l) = k + cinc x + clabs l by omega]
    exact this
theorem ccode_fine {f : Nat} (h1 : 1 ≤ f) (h4 : f ≤ 4) (tn : Nat) (ht : tn < 8) {l : List COp} (h20 : l.length ≤ 20) (hp : ∀ n, COp.put n ∈ l → 1 ≤ n ∧ n ≤ 1000) : CodeFine (ccode f tn l) := by
  have hl := clabs_le l
  have hc := copsCode_len h4 tn l 0
  have hg := part_len2 h4 (show 3 < 5 by decide) (clabs l)
  have h := copsCode_fine h1 h4 tn ht l 0 hp (by omega)
  rw [Nat.zero_add] at h
  have h2 := (h.append (part_fine h1 h4 (show 3 < 5 by decide) (clabs l) (by omega)) (by omega) (by omega)).append (stop_fine _) (by omega) (by omega)
  exact h2.fine (by simp only [List.length_append, List.length_singleton]; omega)
end Qc
end
/- A client's machine at the beginning. -/
section
namespace Go.Proofs.YtppihkneeolomaaGreatDoor
open Qs Qh Qg Qu Qc
variable {f : Nat} {q : List (List COp)}
def cM (f : Nat) (q : List (List COp)) : M := startM 64 (cInit f q.length) (cRegs q.length) (cCodes f q)
theorem cInit_at (f n i : Nat) : (cInit f n)[i]? = if i < n then some (gOwnC f i) else if i = n then some (gHubC f n) else if i = n + 1 then some [1] else if i = n + 2 then some [] else if i = n + 3 then some [] else if i = n + 4 then some [(n : Int) + 2, (n : Int) + 3, (n : Int) + 4] else none := by
  unfold cInit
  simp only [List.append_assoc]
  by_cases h : i < n
  · rw [List.getElem?_append_left (by rw [rowsF_len]; exact h), rowsF_get h, if_pos h]
  · rw [List.getElem?_append_right (by rw [rowsF_len]; omega), rowsF_len, if_neg h]
    obtain ⟨d, rfl⟩ : ∃ d, i = n + d := ⟨i - n, by omega⟩
    rw [show n + d - n = d by omega]
    match d with
    | 0 => simp
    | 1 => simp
    | 2 => simp
    | 3 => simp
    | 4 => simp
    | d + 5 =>
      rw [if_neg (by omega), if_neg (by omega), if_neg (by omega), if_neg (by omega), if_neg (by omega)]
      simp
theorem c_cell {i : Nat} (hi : i < 64) : (cM f q).cells[i]? = some (if i < q.length + 5 then ⟨pad 4 ((cInit f q.length).getD i []), 1, true⟩ else ⟨[0, 0, 0, 0], 0, false⟩) := by
  unfold cM startM
  simp only
  rw [List.getElem?_map, List.getElem?_range hi, cInit_len]
  rfl
theorem c_len : (cM f q).cells.length = 64 := by simp [cM, startM]
theorem c_T (t : Nat) (ht : t < q.length) : (cM f q).T[t]? = some ⟨ccode f t (q.getD t []), gReg3 q.length t, 0⟩ := by
  unfold cM startM cCodes
  simp only
  rw [List.getElem?_mapIdx, List.getElem?_map, List.getElem?_range ht]
  unfold cRegs
  simp only [Option.map_some]
  rw [List.getD_eq_getElem?_getD, rowsF_get ht]
  rfl
theorem c_Tlen : (cM f q).T.length = q.length := by simp [cM, startM, cCodes]
theorem c_here (h6 : q.length ≤ 6) (x : Int) : (absM (cM f q)).here x = true ↔ 1 ≤ x ∧ x ≤ q.length + 5 := by
  rw [abs_here]
  constructor
  · rintro ⟨a, b, y, c, d, e⟩
    have hlt := (List.getElem?_eq_some_iff.1 c).1
    rw [c_len] at hlt
    rw [c_cell hlt] at c
    by_cases h : celOf x < q.length + 5
    · rw [if_pos h] at c
      cases c
      simp only at e
      unfold celOf at h
      omega
    · rw [if_neg h] at c
      cases c
      cases d
  · intro h
    have hc : celOf x = (x - 1).toNat := by unfold celOf; omega
    refine ⟨by omega, by omega, ⟨pad 4 ((cInit f q.length).getD (celOf x) []), 1, true⟩, ?_, rfl, by simp only; omega⟩
    rw [c_cell (by omega), if_pos (by omega)]
theorem c_val (h6 : q.length ≤ 6) {i : Nat} (hi : i < q.length + 5) (w : Nat) : (absM (cM f q)).val ((i : Int) + 1) w = (pad 4 ((cInit f q.length).getD i [])).getD w 0 := by
  rw [abs_val ((c_here h6 _).2 (by omega))]
  unfold getWord
  have hc : celOf ((i : Int) + 1) = i := by unfold celOf; omega
  rw [hc, c_cell (by omega), if_pos hi]
  rfl
theorem c_val5 (h6 : q.length ≤ 6) : (absM (cM f q)).val ((q.length : Int) + 5) 0 = (q.length : Int) + 2 := by
  have := c_val (f := f) h6 (show q.length + 4 < q.length + 5 by omega) 0
  rw [show (((q.length + 4 : Nat) : Int) + 1) = (q.length : Int) + 5 by omega] at this
  have e : (cInit f q.length).getD (q.length + 4) [] = [(q.length : Int) + 2, (q.length : Int) + 3, (q.length : Int) + 4] := by
    rw [List.getD_eq_getElem?_getD, cInit_at, if_neg (by omega), if_neg (by omega), if_neg (by omega), if_neg (by omega), if_neg (by omega), if_pos rfl]; rfl
  rw [this, e]; rfl
theorem c_val2 (h6 : q.length ≤ 6) : (absM (cM f q)).val ((q.length : Int) + 2) 0 = 1 := by
  have := c_val (f := f) h6 (show q.length + 1 < q.length + 5 by omega) 0
  rw [show (((q.length + 1 : Nat) : Int) + 1) = (q.length : Int) + 2 by omega] at this
  have e : (cInit f q.length).getD (q.length + 1) [] = [1] := by
    rw [List.getD_eq_getElem?_getD, cInit_at, if_neg (by omega), if_neg (by omega), if_pos rfl]; rfl
  rw [this, e]; rfl
theorem c_fine (h1 : 1 ≤ f) (h4 : f ≤ 4) (h6 : q.length ≤ 6) (h20 : ∀ l ∈ q, l.length ≤ 20) (hp : ∀ l ∈ q, ∀ n, COp.put n ∈ l → 1 ≤ n ∧ n ≤ 1000) : ∀ c ∈ cCodes f q, CodeFine c := fun c hc => by
  obtain ⟨t, ht, rfl⟩ := List.mem_map.1 hc
  have htl := List.mem_range.1 ht
  unfold cCs
  have hm : q.getD t [] ∈ q := by rw [List.getD_eq_getElem?_getD, List.getElem?_eq_getElem htl]; exact List.getElem_mem htl
  exact ccode_fine h1 h4 t (by omega) (h20 _ hm) (hp _ hm)
theorem cInit_fine (f n : Nat) (hn : n ≤ 6) : RowsFine 4 (cInit f n) := fun l hl => by
  refine ⟨cInit_all f n l hl, fun x hx => ?_⟩
  simp only [cInit, List.mem_append, List.mem_singleton] at hl
  rcases hl with ((((h | h) | h) | h) | h) | h
  · obtain ⟨i, hi, rfl⟩ := List.mem_map.1 h
    have := List.mem_range.1 hi
    simp only [gOwnC, List.mem_cons, List.not_mem_nil, or_false] at hx
    unfold isWord W32
    simp only [Bool.and_eq_true, decide_eq_true_eq]
    rcases hx with rfl | rfl | rfl | rfl
    · split <;> omega
    · split <;> omega
    · omega
    · omega
  all_goals
    subst h
    simp only [gHubC, List.mem_cons, List.not_mem_nil, or_false] at hx
    try unfold isWord W32
    try simp only [Bool.and_eq_true, decide_eq_true_eq]
  · rcases hx with rfl | rfl | rfl | rfl
    · omega
    · omega
    · split <;> omega
    · omega
  · omega
  · rcases hx with rfl | rfl | rfl <;> omega
theorem cRegs_fine (n : Nat) (hn : n ≤ 6) : RowsFine 8 (cRegs n) := fun l hl => by
  obtain ⟨t, ht, rfl⟩ := List.mem_map.1 hl
  have htl := List.mem_range.1 ht
  refine ⟨Nat.le_refl 8, fun x hx => ?_⟩
  simp only [gReg3, List.mem_cons, List.not_mem_nil, or_false] at hx
  unfold isWord W32
  simp only [Bool.and_eq_true, decide_eq_true_eq]
  rcases hx with rfl | rfl | rfl | rfl | rfl | rfl | rfl | rfl <;> omega
end Go.Proofs.YtppihkneeolomaaGreatDoor
end
