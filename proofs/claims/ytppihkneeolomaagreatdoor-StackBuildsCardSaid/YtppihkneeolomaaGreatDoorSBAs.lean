/- errors.As at the program's sentinels, the target a pointer to an *api.Fault: false; nothing that was there turns. -/
import Derived.Test.YtppihkneeolomaaGreatDoorSBIs
import Derived.Test.YtppihkneeolomaaGreatDoorSBm2
import Derived.Lib.Hide
set_option linter.unusedVariables false
set_option linter.unusedSimpArgs false
set_option linter.unusedSectionVars false
namespace Go.Proofs.YtppihkneeolomaaGreatDoor
open Go.RowKit Go.Extern.Stop Go.Stop Go.Extern Qh
theorem asValueOf (t : Addr) (w : World) : (callFunc 113 #[.iface 149 (.pointer (some t))]).run Tryz.prog w
    = .ok (Next.value (.agg #[.pointer (some ⟨14, 149, none⟩), .pointer (some ⟨w.heap.size, 0, none⟩), .int .u64 150])) (w.alloc (.cells #[.pointer (some t)] 149)) := by kernel_rfl
theorem asType (a : Addr) (w : World) : (callFunc 114 #[.agg #[.pointer (some ⟨14, 149, none⟩), .pointer (some a), .int .u64 150]]).run Tryz.prog w
    = .ok (Next.value (.iface 194 (.agg #[.pointer (some ⟨14, 149, none⟩)]))) w := by kernel_rfl
theorem asMethodKind (h : Value) (w : World) : (Go.method 356 194 (.agg #[h]) "Kind").run Tryz.prog w = .ok (153, h) w := by kernel_rfl
theorem asMethodElem (h : Value) (w : World) : (Go.method 356 194 (.agg #[h]) "Elem").run Tryz.prog w = .ok (165, .agg #[h]) w := by kernel_rfl
theorem asMethodImplements (h : Value) (w : World) : (Go.method 356 194 (.agg #[h]) "Implements").run Tryz.prog w = .ok (166, .agg #[h]) w := by kernel_rfl
theorem asMethodAssignableTo (h : Value) (w : World) : (Go.method 356 194 (.agg #[h]) "AssignableTo").run Tryz.prog w = .ok (163, .agg #[h]) w := by kernel_rfl
theorem asKind1 (w : World) : (callFunc 153 #[.pointer (some ⟨14, 149, none⟩)]).run Tryz.prog w = .ok (Next.value (.int .u8 22)) w := by kernel_rfl
theorem asKind2 (w : World) : (callFunc 153 #[.pointer (some ⟨14, 125, none⟩)]).run Tryz.prog w = .ok (Next.value (.int .u8 22)) w := by kernel_rfl
theorem asElem (w : World) : (callFunc 165 #[.agg #[.pointer (some ⟨14, 149, none⟩)]]).run Tryz.prog w = .ok (Next.value (.iface 194 (.agg #[.pointer (some ⟨14, 125, none⟩)]))) w := by kernel_rfl
theorem asImplements (w : World) : (callFunc 166 #[.agg #[.pointer (some ⟨14, 125, none⟩)], .iface 194 (.agg #[.pointer (some ⟨14, 35, none⟩)])]).run Tryz.prog w = .ok (Next.value (.bool true)) w := by kernel_rfl
theorem asAssignable (w : World) : (callFunc 163 #[.agg #[.pointer (some ⟨14, 225, none⟩)], .iface 194 (.agg #[.pointer (some ⟨14, 125, none⟩)])]).run Tryz.prog w = .ok (Next.value (.bool false)) w := by kernel_rfl
theorem noAsE (v : Value) (xT : TypeId) (w : World) : (Instr.typeAssert (.iface 225 v) xT 198 true).run Tryz.prog w = .ok (.tuple #[.nilIface, .bool false]) w := run_typeAssert_lacksB Tryz.underlying198 (by kernel_rfl) (by kernel_rfl) v xT w
theorem rlm (z : Sem Value) (f : TypeId → Addr → Nat → Nat → Sem Value) (v : Value) :
    ReflectliteValue.method z f #[v] = (do match ← ReflectliteValue.parts v with | none => z | some (t, a, fl) => f t a fl (fl % 32)) := rfl
theorem asParts (a : Addr) (w : World) : (ReflectliteValue.parts (.agg #[.pointer (some ⟨14, 149, none⟩), .pointer (some a), .int .u64 150])).run Tryz.prog w = .ok (some (149, a, 150)) w := by kernel_rfl
theorem asIsNil (a p : Addr) (W : World) (ha : W.cell? a = some (.pointer (some p))) :
    (callFunc 115 #[.agg #[.pointer (some ⟨14, 149, none⟩), .pointer (some a), .int .u64 150]]).run Tryz.prog W = .ok (Next.value (.bool false)) W := by
  rw [@run_callFunc_extern Tryz.prog 115 _ (ReflectliteValue.method (ReflectliteValue.valueError "reflectlite.Value.IsNil" 0) ReflectliteValue.isNil) Tryz.func115 (by kernel_rfl) (by kernel_rfl) (by kernel_rfl) (by kernel_rfl)]
  rw [rlm]
  simp only [Sem.run_bind, asParts, Result.andThen]
  simp [ReflectliteValue.isNil, loadVar, isAgg, underlying, Tryz.underlying149, ha, Result.andThen]
set_option maxHeartbeats 4000000 in
theorem as_miss (e t : Addr) (w : World) (hg : w.cell? ⟨9, 0, none⟩ = some (.iface 194 (.agg #[.pointer (some ⟨14, 35, none⟩)]))) :
    Calls Tryz.prog 87 #[.iface 225 (.pointer (some e)), .iface 149 (.pointer (some t))] w fun ev w' => ev = .returned (.bool false) ∧ Mod noF w w' := by
  have f6 := asValueOf
  have f7 := asType
  have mK := asMethodKind
  have mE := asMethodElem
  have mI := asMethodImplements
  have mA := asMethodAssignableTo
  have k1 := asKind1
  have k2 := asKind2
  have e1 := asElem
  have i1 := asImplements
  have tO := isTypeOf
  have a1 := asAssignable
  have nA := noAsE
  have uE := noUnwrapE
  have vE := noUnwrapsE
  have hlt : 9 < w.heap.size := World.block_lt_of_cell? _ _ hg
  have n8 := asIsNil ⟨w.heap.size, 0, none⟩ t ((w.alloc (.cells #[.pointer (some t)] 149)).alloc (.cells #[.pointer (some ⟨14, 149, none⟩), .pointer (some ⟨w.heap.size, 0, none⟩), .int .u64 150] 178)) (by simp)
  have hg2 : ((w.alloc (.cells #[.pointer (some t)] 149)).alloc (.cells #[.pointer (some ⟨14, 149, none⟩), .pointer (some ⟨w.heap.size, 0, none⟩), .int .u64 150] 178)).cell? ⟨9, 0, none⟩ = some (.iface 194 (.agg #[.pointer (some ⟨14, 35, none⟩)])) := by
    rw [World.cell?_alloc_lt _ _ ⟨9, 0, none⟩ (by simp; omega), World.cell?_alloc_lt _ _ ⟨9, 0, none⟩ hlt]; exact hg
  go_enter Tryz.func87, Tryz.ntmps87
  go_wp2
  refine wp_loop_rounds 1 ?_
  rw [rounds_succ]
  go_wp2
  go_ret
  exact ⟨rfl, by repeat (first | exact Mod.refl _ _ | apply Mod.alloc | apply Mod.drew)⟩
end Go.Proofs.YtppihkneeolomaaGreatDoor
