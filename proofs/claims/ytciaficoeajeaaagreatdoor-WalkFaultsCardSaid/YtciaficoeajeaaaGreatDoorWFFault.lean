/- errors.As, errors.Is, plain.Code at an *api.Fault that holds a sentinel; at an error of another make. -/
import Derived.Test.YtciaficoeajeaaaGreatDoorWFm5
set_option linter.unusedVariables false
set_option linter.unusedSimpArgs false
set_option linter.unusedSectionVars false
set_option maxHeartbeats 4000000
namespace Go.Proofs.YtciaficoeajeaaaGreatDoor
open Go.RowKit Go.Extern.Stop Go.Stop Go.Extern Qh
theorem ftTypeOf(v:Value)(w:World):(callFunc 101 #[.iface 89 v]).run Tryz.prog w=.ok (Next.value (.iface 206 (.agg #[.pointer (some ⟨10,89,none⟩)]))) w:=by kernel_rfl
theorem ftAssignable(w:World):(callFunc 161 #[.agg #[.pointer (some ⟨10,89,none⟩)],.iface 206 (.agg #[.pointer (some ⟨10,89,none⟩)])]).run Tryz.prog w=.ok (Next.value (.bool true)) w:=by kernel_rfl
theorem ftValueOf(e:Addr)(w:World):(callFunc 80 #[.iface 89 (.pointer (some e))]).run Tryz.prog w
  = .ok (Next.value (.agg #[.pointer (some ⟨10,89,none⟩),.pointer (some ⟨w.heap.size,0,none⟩),.int .u64 150])) (w.alloc (.cells #[.pointer (some e)] 89)):=by kernel_rfl
theorem ftElemOf(w:World):(Rtype.elem? 91).run Tryz.prog w=.ok (some 89) w:=by kernel_rfl
theorem ftMk(p:Addr)(w:World):(ReflectliteValue.mk 89 p ReflectliteValue.flagAddr).run Tryz.prog w=.ok (.agg #[.pointer (some ⟨10,89,none⟩),.pointer (some p),.int .u64 406]) w:=by kernel_rfl
theorem ftElem(a p:Addr)(W:World)(ha:W.cell? a=some (.pointer (some p))) :
  (callFunc 117 #[.agg #[.pointer (some ⟨10,91,none⟩),.pointer (some a),.int .u64 150]]).run Tryz.prog W=.ok (Next.value (.agg #[.pointer (some ⟨10,89,none⟩),.pointer (some p),.int .u64 406])) W:=by
 rw [@run_callFunc_extern Tryz.prog 117 _ (ReflectliteValue.method (ReflectliteValue.valueError "reflectlite.Value.Elem" 0) ReflectliteValue.elem) Tryz.func117 (by kernel_rfl) (by kernel_rfl) (by kernel_rfl) (by kernel_rfl)];rw[rlm]
 simp only[Sem.run_bind,asParts,Result.andThen];simp[ReflectliteValue.elem,loadVar,isAgg,underlying,Tryz.underlying91,ha,Result.andThen,ftElemOf,ftMk]
theorem rls(v x:Value):ReflectliteValue.set #[v,x]=(do
  let (some (dst,a,fl),some (src,b,_)):=(←ReflectliteValue.parts v,←ReflectliteValue.parts x)
   | unsupported (.noEntry "extern/(internal/reflectlite.Value).Set.zeroValue")
  if fl / ReflectliteValue.flagAddr % 2 == 0 then unsupported (.noEntry "extern/(internal/reflectlite.Value).Set.unaddressable")
  let val ←loadVar src b
  if ←Rtype.directlyAssignable dst src then storeVar dst a val
  else if ←Rtype.implements dst src then
   if (←Rtype.kind src)==20 then
    match val with
    | .nilIface => unsupported (.noEntry "extern/reflectlite: a nil value of one interface type handed on as a value of another")
    |_=>storeVar dst a val
   else storeVar dst a (.iface src val)
  else panicString ("reflectlite.Set: value of type " ++ (← Rtype.spelt src) ++ " is not assignable to type " ++ (← Rtype.spelt dst))
  pure (.tuple #[])):=rfl
theorem ftParts1(a:Addr)(w:World):(ReflectliteValue.parts (.agg #[.pointer (some ⟨10,89,none⟩),.pointer (some a),.int .u64 406])).run Tryz.prog w=.ok (some (89,a,406)) w:=by kernel_rfl
theorem ftParts2(a:Addr)(w:World):(ReflectliteValue.parts (.agg #[.pointer (some ⟨10,89,none⟩),.pointer (some a),.int .u64 150])).run Tryz.prog w=.ok (some (89,a,150)) w:=by kernel_rfl
theorem ftDirect(w:World):(Rtype.directlyAssignable 89 89).run Tryz.prog w=.ok true w:=by kernel_rfl
theorem ftSet(ta b e:Addr)(old:Value)(W:World)(hb:W.cell? b=some (.pointer (some e)))(ht:W.cell? ta=some old)(hf:W.frozen? ta=false) :
  (callFunc 118 #[.agg #[.pointer (some ⟨10,89,none⟩),.pointer (some ta),.int .u64 406],.agg #[.pointer (some ⟨10,89,none⟩),.pointer (some b),.int .u64 150]]).run Tryz.prog W=.ok (Next.value (.tuple #[])) (W.setCell ta (.pointer (some e))):=by
 rw[@run_callFunc_extern Tryz.prog 118 _ ReflectliteValue.set Tryz.func118 (by kernel_rfl) (by kernel_rfl) (by kernel_rfl) (by kernel_rfl)];rw[rls];simp only[Sem.run_bind,ftParts1,ftParts2,Result.andThen]
 simp[ReflectliteValue.flagAddr,loadVar,isAgg,underlying,Tryz.underlying89,hb,Result.andThen,ftDirect,storeVar,Value.cells,storeCells,Addr.add];rw[run_store Tryz.prog W ta _ _ (by rfl)];simp[ht,hf]
theorem as_hit(e t:Addr)(old:Value)(w:World)(hg:w.cell? ⟨5,0,none⟩=some (.iface 206 (.agg #[.pointer (some ⟨10,31,none⟩)])))(ht0:w.cell? t=some old)(hf0:w.frozen? t=false) :
  Calls Tryz.prog 38 #[.iface 89 (.pointer (some e)),.iface 91 (.pointer (some t))] w fun ev w'=>ev=.returned (.bool true)∧Mod (fun x=>x=t.block) w w'∧w'.cell? t=some (.pointer (some e)):=by
 have f6:=asValueOf;have f7:=asType;have mK:=asMethodKind;have mE:=asMethodElem;have mI:=asMethodImplements;have mA:=asMethodAssignableTo;have k1:=asKind1;have k2:=asKind2;have e1:=asElem;have i1:=asImplements;have tO:=ftTypeOf;have a1:=ftAssignable;have v1:=ftValueOf
 have hlt : 5 < w.heap.size:=World.block_lt_of_cell? _ _ hg;have htl:t.block<w.heap.size:=World.block_lt_of_cell? _ _ ht0
 have n8:=asIsNil ⟨w.heap.size,0,none⟩ t ((w.alloc (.cells #[.pointer (some t)] 91)).alloc (.cells #[.pointer (some ⟨10,91,none⟩),.pointer (some ⟨w.heap.size,0,none⟩),.int .u64 150] 155)) (by simp)
 have hg2:((w.alloc (.cells #[.pointer (some t)] 91)).alloc (.cells #[.pointer (some ⟨10,91,none⟩),.pointer (some ⟨w.heap.size,0,none⟩),.int .u64 150] 155)).cell? ⟨5,0,none⟩=some (.iface 206 (.agg #[.pointer (some ⟨10,31,none⟩)])):=by
  rw[World.cell?_alloc_lt _ _ ⟨5,0,none⟩ (by simp;omega),World.cell?_alloc_lt _ _ ⟨5,0,none⟩ hlt];exact hg
 have el:=ftElem ⟨w.heap.size,0,none⟩ t (((w.alloc (.cells #[.pointer (some t)] 91)).alloc (.cells #[.pointer (some ⟨10,91,none⟩),.pointer (some ⟨w.heap.size,0,none⟩),.int .u64 150] 155)).alloc (.cells #[.pointer (some ⟨10,91,none⟩),.pointer (some ⟨w.heap.size,0,none⟩),.int .u64 150] 155)) (by rw[World.cell?_alloc_lt _ _ ⟨w.heap.size,0,none⟩ (by simp;omega)];simp)
 have ht4:((((w.alloc (.cells #[.pointer (some t)] 91)).alloc (.cells #[.pointer (some ⟨10,91,none⟩),.pointer (some ⟨w.heap.size,0,none⟩),.int .u64 150] 155)).alloc (.cells #[.pointer (some ⟨10,91,none⟩),.pointer (some ⟨w.heap.size,0,none⟩),.int .u64 150] 155)).alloc (.cells #[.pointer (some e)] 89)).cell? t=some old:=by
  rw[World.cell?_alloc_lt _ _ t (by simp;omega),World.cell?_alloc_lt _ _ t (by simp;omega),World.cell?_alloc_lt _ _ t (by simp;omega),World.cell?_alloc_lt _ _ t htl];exact ht0
 have hf4:((((w.alloc (.cells #[.pointer (some t)] 91)).alloc (.cells #[.pointer (some ⟨10,91,none⟩),.pointer (some ⟨w.heap.size,0,none⟩),.int .u64 150] 155)).alloc (.cells #[.pointer (some ⟨10,91,none⟩),.pointer (some ⟨w.heap.size,0,none⟩),.int .u64 150] 155)).alloc (.cells #[.pointer (some e)] 89)).frozen? t=false:=by
  rw[World.frozen?_alloc_old _ _ t (by simp;omega),World.frozen?_alloc_old _ _ t (by simp;omega),World.frozen?_alloc_old _ _ t (by simp;omega),World.frozen?_alloc_old _ _ t (Nat.ne_of_lt htl)];exact hf0
 have st:=ftSet t ⟨w.heap.size+1+1+1,0,none⟩ e old ((((w.alloc (.cells #[.pointer (some t)] 91)).alloc (.cells #[.pointer (some ⟨10,91,none⟩),.pointer (some ⟨w.heap.size,0,none⟩),.int .u64 150] 155)).alloc (.cells #[.pointer (some ⟨10,91,none⟩),.pointer (some ⟨w.heap.size,0,none⟩),.int .u64 150] 155)).alloc (.cells #[.pointer (some e)] 89)) (by rw[World.cell?_alloc_at _ _ _ _ (by simp)];rfl) ht4 hf4
 have Ht4:=Lib.hid ht4;clear ht4 hf4
 go_enter Tryz.func38,Tryz.ntmps38
 go_wp2;refine wp_loop_rounds 1 ?_;rw[rounds_succ];go_wp2;go_ret;refine ⟨rfl,?_,?_⟩
 ·exact (((((Mod.refl (fun x=>x=t.block) w).alloc _).alloc _).alloc _).alloc _).setCell (fun _=>rfl) _
 ·exact World.cell?_setCell_same _ _ _ Ht4.out
end Go.Proofs.YtciaficoeajeaaaGreatDoor
