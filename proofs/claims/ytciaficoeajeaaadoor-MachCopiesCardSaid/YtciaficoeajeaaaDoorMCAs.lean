/- errors.As at the program's sentinels, the target a pointer to an *api.Fault: false; nothing that was there turns. -/
import Derived.Test.YtciaficoeajeaaaDoorMCm3
import Derived.Test.YtciaficoeajeaaaDoorMCm2
import Derived.Lib.Hide
set_option linter.unusedVariables false
set_option linter.unusedSimpArgs false
set_option linter.unusedSectionVars false
set_option maxHeartbeats 4000000
namespace Go.Proofs.YtciaficoeajeaaaDoor
open Go.RowKit Go.Extern.Stop Go.Stop Go.Extern Qh
theorem asValueOf(t:Addr)(w:World):(callFunc 42 #[.iface 64 (.pointer (some t))]).run Tryd.prog w
  = .ok (Next.value (.agg #[.pointer (some ⟨10,64,none⟩),.pointer (some ⟨w.heap.size,0,none⟩),.int .u64 150])) (w.alloc (.cells #[.pointer (some t)] 64)):=by kernel_rfl
theorem asType(a:Addr)(w:World):(callFunc 43 #[.agg #[.pointer (some ⟨10,64,none⟩),.pointer (some a),.int .u64 150]]).run Tryd.prog w
  = .ok (Next.value (.iface 146 (.agg #[.pointer (some ⟨10,64,none⟩)]))) w:=by kernel_rfl
theorem asMethodKind (h : Value) (w : World) : (Go.method 304 146 (.agg #[h]) "Kind").run Tryd.prog w = .ok (96, h) w := by kernel_rfl
theorem asMethodElem (h : Value) (w : World) : (Go.method 304 146 (.agg #[h]) "Elem").run Tryd.prog w = .ok (107, .agg #[h]) w := by kernel_rfl
theorem asMethodImplements (h : Value) (w : World) : (Go.method 304 146 (.agg #[h]) "Implements").run Tryd.prog w = .ok (108, .agg #[h]) w := by kernel_rfl
theorem asMethodAssignableTo (h : Value) (w : World) : (Go.method 304 146 (.agg #[h]) "AssignableTo").run Tryd.prog w = .ok (105, .agg #[h]) w := by kernel_rfl
theorem asKind1(w:World):(callFunc 96 #[.pointer (some ⟨10,64,none⟩)]).run Tryd.prog w=.ok (Next.value (.int .u8 22)) w:=by kernel_rfl
theorem asKind2(w:World):(callFunc 96 #[.pointer (some ⟨10,62,none⟩)]).run Tryd.prog w=.ok (Next.value (.int .u8 22)) w:=by kernel_rfl
theorem asElem(w:World):(callFunc 107 #[.agg #[.pointer (some ⟨10,64,none⟩)]]).run Tryd.prog w=.ok (Next.value (.iface 146 (.agg #[.pointer (some ⟨10,62,none⟩)]))) w:=by kernel_rfl
theorem asImplements(w:World):(callFunc 108 #[.agg #[.pointer (some ⟨10,62,none⟩)],.iface 146 (.agg #[.pointer (some ⟨10,31,none⟩)])]).run Tryd.prog w=.ok (Next.value (.bool true)) w:=by kernel_rfl
theorem asAssignable(w:World):(callFunc 105 #[.agg #[.pointer (some ⟨10,171,none⟩)],.iface 146 (.agg #[.pointer (some ⟨10,62,none⟩)])]).run Tryd.prog w=.ok (Next.value (.bool false)) w:=by kernel_rfl
theorem noAsE(v:Value)(xT:TypeId)(w:World):(Instr.typeAssert (.iface 171 v) xT 151 true).run Tryd.prog w=.ok (.tuple #[.nilIface,.bool false]) w:=run_typeAssert_lacksB Tryd.underlying151 (by kernel_rfl) (by kernel_rfl) v xT w
theorem rlm(z:Sem Value)(f:TypeId→Addr→Nat→Nat→Sem Value)(v:Value) :
  ReflectliteValue.method z f #[v]=(do match ←ReflectliteValue.parts v with|none=>z|some (t,a,fl)=>f t a fl (fl % 32)):=rfl
theorem asParts(a:Addr)(w:World):(ReflectliteValue.parts (.agg #[.pointer (some ⟨10,64,none⟩),.pointer (some a),.int .u64 150])).run Tryd.prog w=.ok (some (64,a,150)) w:=by kernel_rfl
theorem asIsNil(a p:Addr)(W:World)(ha:W.cell? a=some (.pointer (some p))) :
  (callFunc 44 #[.agg #[.pointer (some ⟨10,64,none⟩),.pointer (some a),.int .u64 150]]).run Tryd.prog W=.ok (Next.value (.bool false)) W:=by
 rw [@run_callFunc_extern Tryd.prog 44 _ (ReflectliteValue.method (ReflectliteValue.valueError "reflectlite.Value.IsNil" 0) ReflectliteValue.isNil) Tryd.func44 (by kernel_rfl) (by kernel_rfl) (by kernel_rfl) (by kernel_rfl)]
 rw[rlm];simp only[Sem.run_bind,asParts,Result.andThen];simp[ReflectliteValue.isNil,loadVar,isAgg,underlying,Tryd.underlying64,ha,Result.andThen]
theorem as_miss(e t:Addr)(w:World)(hg:w.cell? ⟨4,0,none⟩=some (.iface 146 (.agg #[.pointer (some ⟨10,31,none⟩)]))) :
  Calls Tryd.prog 23 #[.iface 171 (.pointer (some e)),.iface 64 (.pointer (some t))] w fun ev w'=>ev=.returned (.bool false)∧Mod noF w w':=by
 have f6:=asValueOf;have f7:=asType;have mK:=asMethodKind;have mE:=asMethodElem;have mI:=asMethodImplements;have mA:=asMethodAssignableTo;have k1:=asKind1;have k2:=asKind2;have e1:=asElem;have i1:=asImplements;have tO:=isTypeOf;have a1:=asAssignable;have nA:=noAsE;have uE:=noUnwrapE
 have vE:=noUnwrapsE;have hlt : 4 < w.heap.size:=World.block_lt_of_cell? _ _ hg
 have n8:=asIsNil ⟨w.heap.size,0,none⟩ t ((w.alloc (.cells #[.pointer (some t)] 64)).alloc (.cells #[.pointer (some ⟨10,64,none⟩),.pointer (some ⟨w.heap.size,0,none⟩),.int .u64 150] 100)) (by simp)
 have hg2:((w.alloc (.cells #[.pointer (some t)] 64)).alloc (.cells #[.pointer (some ⟨10,64,none⟩),.pointer (some ⟨w.heap.size,0,none⟩),.int .u64 150] 100)).cell? ⟨4,0,none⟩=some (.iface 146 (.agg #[.pointer (some ⟨10,31,none⟩)])):=by
  rw[World.cell?_alloc_lt _ _ ⟨4,0,none⟩ (by simp;omega),World.cell?_alloc_lt _ _ ⟨4,0,none⟩ hlt];exact hg
 go_enter Tryd.func23,Tryd.ntmps23
 go_wp2;refine wp_loop_rounds 1 ?_;rw[rounds_succ];go_wp2;go_ret;exact ⟨rfl,by repeat (first|exact Mod.refl _ _|apply Mod.alloc|apply Mod.drew)⟩
end Go.Proofs.YtciaficoeajeaaaDoor
