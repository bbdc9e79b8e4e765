/- errors.As at the program's sentinels, the target a pointer to an *api.Fault: false; nothing that was there turns. -/
import Derived.Test.YtciaficoeajeaaaGreatDoorWFm3
import Derived.Test.YtciaficoeajeaaaGreatDoorWFm2
import Derived.Lib.Hide
set_option linter.unusedVariables false
set_option linter.unusedSimpArgs false
set_option linter.unusedSectionVars false
set_option maxHeartbeats 4000000
namespace Go.Proofs.YtciaficoeajeaaaGreatDoor
open Go.RowKit Go.Extern.Stop Go.Stop Go.Extern Qh
theorem asValueOf(t:Addr)(w:World):(callFunc 80 #[.iface 91 (.pointer (some t))]).run Tryz.prog w
  = .ok (Next.value (.agg #[.pointer (some ⟨10,91,none⟩),.pointer (some ⟨w.heap.size,0,none⟩),.int .u64 150])) (w.alloc (.cells #[.pointer (some t)] 91)):=by kernel_rfl
theorem asType(a:Addr)(w:World):(callFunc 81 #[.agg #[.pointer (some ⟨10,91,none⟩),.pointer (some a),.int .u64 150]]).run Tryz.prog w
  = .ok (Next.value (.iface 206 (.agg #[.pointer (some ⟨10,91,none⟩)]))) w:=by kernel_rfl
theorem asMethodKind (h : Value) (w : World) : (Go.method 373 206 (.agg #[h]) "Kind").run Tryz.prog w = .ok (152, h) w := by kernel_rfl
theorem asMethodElem (h : Value) (w : World) : (Go.method 373 206 (.agg #[h]) "Elem").run Tryz.prog w = .ok (163, .agg #[h]) w := by kernel_rfl
theorem asMethodImplements (h : Value) (w : World) : (Go.method 373 206 (.agg #[h]) "Implements").run Tryz.prog w = .ok (164, .agg #[h]) w := by kernel_rfl
theorem asMethodAssignableTo (h : Value) (w : World) : (Go.method 373 206 (.agg #[h]) "AssignableTo").run Tryz.prog w = .ok (161, .agg #[h]) w := by kernel_rfl
theorem asKind1(w:World):(callFunc 152 #[.pointer (some ⟨10,91,none⟩)]).run Tryz.prog w=.ok (Next.value (.int .u8 22)) w:=by kernel_rfl
theorem asKind2(w:World):(callFunc 152 #[.pointer (some ⟨10,89,none⟩)]).run Tryz.prog w=.ok (Next.value (.int .u8 22)) w:=by kernel_rfl
theorem asElem(w:World):(callFunc 163 #[.agg #[.pointer (some ⟨10,91,none⟩)]]).run Tryz.prog w=.ok (Next.value (.iface 206 (.agg #[.pointer (some ⟨10,89,none⟩)]))) w:=by kernel_rfl
theorem asImplements(w:World):(callFunc 164 #[.agg #[.pointer (some ⟨10,89,none⟩)],.iface 206 (.agg #[.pointer (some ⟨10,31,none⟩)])]).run Tryz.prog w=.ok (Next.value (.bool true)) w:=by kernel_rfl
theorem asAssignable(w:World):(callFunc 161 #[.agg #[.pointer (some ⟨10,241,none⟩)],.iface 206 (.agg #[.pointer (some ⟨10,89,none⟩)])]).run Tryz.prog w=.ok (Next.value (.bool false)) w:=by kernel_rfl
theorem noAsE(v:Value)(xT:TypeId)(w:World):(Instr.typeAssert (.iface 241 v) xT 210 true).run Tryz.prog w=.ok (.tuple #[.nilIface,.bool false]) w:=run_typeAssert_lacksB Tryz.underlying210 (by kernel_rfl) (by kernel_rfl) v xT w
theorem rlm(z:Sem Value)(f:TypeId→Addr→Nat→Nat→Sem Value)(v:Value) :
  ReflectliteValue.method z f #[v]=(do match ←ReflectliteValue.parts v with|none=>z|some (t,a,fl)=>f t a fl (fl % 32)):=rfl
theorem asParts(a:Addr)(w:World):(ReflectliteValue.parts (.agg #[.pointer (some ⟨10,91,none⟩),.pointer (some a),.int .u64 150])).run Tryz.prog w=.ok (some (91,a,150)) w:=by kernel_rfl
theorem asIsNil(a p:Addr)(W:World)(ha:W.cell? a=some (.pointer (some p))) :
  (callFunc 82 #[.agg #[.pointer (some ⟨10,91,none⟩),.pointer (some a),.int .u64 150]]).run Tryz.prog W=.ok (Next.value (.bool false)) W:=by
 rw [@run_callFunc_extern Tryz.prog 82 _ (ReflectliteValue.method (ReflectliteValue.valueError "reflectlite.Value.IsNil" 0) ReflectliteValue.isNil) Tryz.func82 (by kernel_rfl) (by kernel_rfl) (by kernel_rfl) (by kernel_rfl)]
 rw[rlm];simp only[Sem.run_bind,asParts,Result.andThen];simp[ReflectliteValue.isNil,loadVar,isAgg,underlying,Tryz.underlying91,ha,Result.andThen]
theorem as_miss(e t:Addr)(w:World)(hg:w.cell? ⟨5,0,none⟩=some (.iface 206 (.agg #[.pointer (some ⟨10,31,none⟩)]))) :
  Calls Tryz.prog 38 #[.iface 241 (.pointer (some e)),.iface 91 (.pointer (some t))] w fun ev w'=>ev=.returned (.bool false)∧Mod noF w w':=by
 have f6:=asValueOf;have f7:=asType;have mK:=asMethodKind;have mE:=asMethodElem;have mI:=asMethodImplements;have mA:=asMethodAssignableTo;have k1:=asKind1;have k2:=asKind2;have e1:=asElem;have i1:=asImplements;have tO:=isTypeOf;have a1:=asAssignable;have nA:=noAsE;have uE:=noUnwrapE
 have vE:=noUnwrapsE;have hlt : 5 < w.heap.size:=World.block_lt_of_cell? _ _ hg
 have n8:=asIsNil ⟨w.heap.size,0,none⟩ t ((w.alloc (.cells #[.pointer (some t)] 91)).alloc (.cells #[.pointer (some ⟨10,91,none⟩),.pointer (some ⟨w.heap.size,0,none⟩),.int .u64 150] 155)) (by simp)
 have hg2:((w.alloc (.cells #[.pointer (some t)] 91)).alloc (.cells #[.pointer (some ⟨10,91,none⟩),.pointer (some ⟨w.heap.size,0,none⟩),.int .u64 150] 155)).cell? ⟨5,0,none⟩=some (.iface 206 (.agg #[.pointer (some ⟨10,31,none⟩)])):=by
  rw[World.cell?_alloc_lt _ _ ⟨5,0,none⟩ (by simp;omega),World.cell?_alloc_lt _ _ ⟨5,0,none⟩ hlt];exact hg
 go_enter Tryz.func38,Tryz.ntmps38
 go_wp2;refine wp_loop_rounds 1 ?_;rw[rounds_succ];go_wp2;go_ret;exact ⟨rfl,by repeat (first|exact Mod.refl _ _|apply Mod.alloc|apply Mod.drew)⟩
end Go.Proofs.YtciaficoeajeaaaGreatDoor
