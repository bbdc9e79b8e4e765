/- errors.As at the program's sentinels, the target a pointer to an *api.Fault: false; nothing that was there turns. -/
import Derived.Test.YtppihkneeolomaaDoorQBIs
import Derived.Test.YtppihkneeolomaaDoorQBm2
import Derived.Lib.Hide
set_option linter.unusedVariables false
set_option linter.unusedSimpArgs false
set_option linter.unusedSectionVars false
namespace Go.Proofs.YtppihkneeolomaaDoor
open Go.RowKit Go.Extern.Stop Go.Stop Go.Extern Qh
theorem asValueOf (t : Addr) (w : World) : (callFunc 103 #[.iface 136 (.pointer (some t))]).run Tryd.prog w
    = .ok (Next.value (.agg #[.pointer (some ⟨14, 136, none⟩), .pointer (some ⟨w.heap.size, 0, none⟩), .int .u64 150])) (w.alloc (.cells #[.pointer (some t)] 136)) := by kernel_rfl
theorem asType (a : Addr) (w : World) : (callFunc 104 #[.agg #[.pointer (some ⟨14, 136, none⟩), .pointer (some a), .int .u64 150]]).run Tryd.prog w
    = .ok (Next.value (.iface 192 (.agg #[.pointer (some ⟨14, 136, none⟩)]))) w := by kernel_rfl
theorem asMethodKind (h : Value) (w : World) : (Go.method 353 192 (.agg #[h]) "Kind").run Tryd.prog w = .ok (150, h) w := by kernel_rfl
theorem asMethodElem (h : Value) (w : World) : (Go.method 353 192 (.agg #[h]) "Elem").run Tryd.prog w = .ok (161, .agg #[h]) w := by kernel_rfl
theorem asMethodImplements (h : Value) (w : World) : (Go.method 353 192 (.agg #[h]) "Implements").run Tryd.prog w = .ok (162, .agg #[h]) w := by kernel_rfl
theorem asMethodAssignableTo (h : Value) (w : World) : (Go.method 353 192 (.agg #[h]) "AssignableTo").run Tryd.prog w = .ok (159, .agg #[h]) w := by kernel_rfl
theorem asKind1 (w : World) : (callFunc 150 #[.pointer (some ⟨14, 136, none⟩)]).run Tryd.prog w = .ok (Next.value (.int .u8 22)) w := by kernel_rfl
theorem asKind2 (w : World) : (callFunc 150 #[.pointer (some ⟨14, 124, none⟩)]).run Tryd.prog w = .ok (Next.value (.int .u8 22)) w := by kernel_rfl
theorem asElem (w : World) : (callFunc 161 #[.agg #[.pointer (some ⟨14, 136, none⟩)]]).run Tryd.prog w = .ok (Next.value (.iface 192 (.agg #[.pointer (some ⟨14, 124, none⟩)]))) w := by kernel_rfl
theorem asImplements (w : World) : (callFunc 162 #[.agg #[.pointer (some ⟨14, 124, none⟩)], .iface 192 (.agg #[.pointer (some ⟨14, 35, none⟩)])]).run Tryd.prog w = .ok (Next.value (.bool true)) w := by kernel_rfl
theorem asAssignable (w : World) : (callFunc 159 #[.agg #[.pointer (some ⟨14, 222, none⟩)], .iface 192 (.agg #[.pointer (some ⟨14, 124, none⟩)])]).run Tryd.prog w = .ok (Next.value (.bool false)) w := by kernel_rfl
theorem noAsE (v : Value) (xT : TypeId) (w : World) : (Instr.typeAssert (.iface 222 v) xT 196 true).run Tryd.prog w = .ok (.tuple #[.nilIface, .bool false]) w := run_typeAssert_lacksB Tryd.underlying196 (by kernel_rfl) (by kernel_rfl) v xT w
theorem rlm (z : Sem Value) (f : TypeId → Addr → Nat → Nat → Sem Value) (v : Value) :
    ReflectliteValue.method z f #[v] = (do match ← ReflectliteValue.parts v with | none => z | some (t, a, fl) => f t a fl (fl % 32)) := rfl
theorem asParts (a : Addr) (w : World) : (ReflectliteValue.parts (.agg #[.pointer (some ⟨14, 136, none⟩), .pointer (some a), .int .u64 150])).run Tryd.prog w = .ok (some (136, a, 150)) w := by kernel_rfl
theorem asIsNil (a p : Addr) (W : World) (ha : W.cell? a = some (.pointer (some p))) :
    (callFunc 105 #[.agg #[.pointer (some ⟨14, 136, none⟩), .pointer (some a), .int .u64 150]]).run Tryd.prog W = .ok (Next.value (.bool false)) W := by
  rw [@run_callFunc_extern Tryd.prog 105 _ (ReflectliteValue.method (ReflectliteValue.valueError "reflectlite.Value.IsNil" 0) ReflectliteValue.isNil) Tryd.func105 (by kernel_rfl) (by kernel_rfl) (by kernel_rfl) (by kernel_rfl)]
  rw [rlm]
  simp only [Sem.run_bind, asParts, Result.andThen]
  simp [ReflectliteValue.isNil, loadVar, isAgg, underlying, Tryd.underlying136, ha, Result.andThen]
set_option maxHeartbeats 4000000 in
theorem as_miss (e t : Addr) (w : World) (hg : w.cell? ⟨9, 0, none⟩ = some (.iface 192 (.agg #[.pointer (some ⟨14, 35, none⟩)]))) :
    Calls Tryd.prog 74 #[.iface 222 (.pointer (some e)), .iface 136 (.pointer (some t))] w fun ev w' => ev = .returned (.bool false) ∧ Mod noF w w' := by
  have f6 := asValueOf
  have f7 := asType
  have mK := asMethodKind
  have mE := asMethodElem
  have mI := asMethodImplements
  have mA := asMethodAssignableTo
  have k1 := asKind1
  have k2 := asKind2
  have e1 := asElem
  have i1 := asImplements
  have tO := isTypeOf
  have a1 := asAssignable
  have nA := noAsE
  have uE := noUnwrapE
  have vE := noUnwrapsE
  have hlt : 9 < w.heap.size := World.block_lt_of_cell? _ _ hg
  have n8 := asIsNil ⟨w.heap.size, 0, none⟩ t ((w.alloc (.cells #[.pointer (some t)] 136)).alloc (.cells #[.pointer (some ⟨14, 136, none⟩), .pointer (some ⟨w.heap.size, 0, none⟩), .int .u64 150] 169)) (by simp)
  have hg2 : ((w.alloc (.cells #[.pointer (some t)] 136)).alloc (.cells #[.pointer (some ⟨14, 136, none⟩), .pointer (some ⟨w.heap.size, 0, none⟩), .int .u64 150] 169)).cell? ⟨9, 0, none⟩ = some (.iface 192 (.agg #[.pointer (some ⟨14, 35, none⟩)])) := by
    rw [World.cell?_alloc_lt _ _ ⟨9, 0, none⟩ (by simp; omega), World.cell?_alloc_lt _ _ ⟨9, 0, none⟩ hlt]; exact hg
  go_enter Tryd.func74, Tryd.ntmps74
  go_wp2
  refine wp_loop_rounds 1 ?_
  rw [rounds_succ]
  go_wp2
  go_ret
  exact ⟨rfl, by repeat (first | exact Mod.refl _ _ | apply Mod.alloc | apply Mod.drew)⟩
end Go.Proofs.YtppihkneeolomaaDoor
