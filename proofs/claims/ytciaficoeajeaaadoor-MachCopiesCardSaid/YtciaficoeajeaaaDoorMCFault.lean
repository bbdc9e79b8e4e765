/- errors.As, errors.Is, plain.Code at an *api.Fault that holds a sentinel; at an error of another make. -/
import Derived.Test.YtciaficoeajeaaaDoorMCm5
set_option linter.unusedVariables false
set_option linter.unusedSimpArgs false
set_option linter.unusedSectionVars false
set_option maxHeartbeats 4000000
namespace Go.Proofs.YtciaficoeajeaaaDoor
open Go.RowKit Go.Extern.Stop Go.Stop Go.Extern Qh
theorem ftTypeOf(v:Value)(w:World):(callFunc 68 #[.iface 62 v]).run Tryd.prog w=.ok (Next.value (.iface 146 (.agg #[.pointer (some ⟨10,62,none⟩)]))) w:=by kernel_rfl
theorem ftAssignable(w:World):(callFunc 105 #[.agg #[.pointer (some ⟨10,62,none⟩)],.iface 146 (.agg #[.pointer (some ⟨10,62,none⟩)])]).run Tryd.prog w=.ok (Next.value (.bool true)) w:=by kernel_rfl
theorem ftValueOf(e:Addr)(w:World):(callFunc 42 #[.iface 62 (.pointer (some e))]).run Tryd.prog w
  = .ok (Next.value (.agg #[.pointer (some ⟨10,62,none⟩),.pointer (some ⟨w.heap.size,0,none⟩),.int .u64 150])) (w.alloc (.cells #[.pointer (some e)] 62)):=by kernel_rfl
theorem ftElemOf(w:World):(Rtype.elem? 64).run Tryd.prog w=.ok (some 62) w:=by kernel_rfl
theorem ftMk(p:Addr)(w:World):(ReflectliteValue.mk 62 p ReflectliteValue.flagAddr).run Tryd.prog w=.ok (.agg #[.pointer (some ⟨10,62,none⟩),.pointer (some p),.int .u64 406]) w:=by kernel_rfl
theorem ftElem(a p:Addr)(W:World)(ha:W.cell? a=some (.pointer (some p))) :
  (callFunc 69 #[.agg #[.pointer (some ⟨10,64,none⟩),.pointer (some a),.int .u64 150]]).run Tryd.prog W=.ok (Next.value (.agg #[.pointer (some ⟨10,62,none⟩),.pointer (some p),.int .u64 406])) W:=by
 rw [@run_callFunc_extern Tryd.prog 69 _ (ReflectliteValue.method (ReflectliteValue.valueError "reflectlite.Value.Elem" 0) ReflectliteValue.elem) Tryd.func69 (by kernel_rfl) (by kernel_rfl) (by kernel_rfl) (by kernel_rfl)];rw[rlm]
 simp only[Sem.run_bind,asParts,Result.andThen];simp[ReflectliteValue.elem,loadVar,isAgg,underlying,Tryd.underlying64,ha,Result.andThen,ftElemOf,ftMk]
theorem rls(v x:Value):ReflectliteValue.set #[v,x]=(do
  let (some (dst,a,fl),some (src,b,_)):=(←ReflectliteValue.parts v,←ReflectliteValue.parts x)
   | unsupported (.noEntry "extern/(internal/reflectlite.Value).Set.zeroValue")
  if fl / ReflectliteValue.flagAddr % 2 == 0 then unsupported (.noEntry "extern/(internal/reflectlite.Value).Set.unaddressable")
  let val ←loadVar src b
  if ←Rtype.directlyAssignable dst src then storeVar dst a val
  else if ←Rtype.implements dst src then
   if (←Rtype.kind src)==20 then
    match val with
    | .nilIface => unsupported (.noEntry "extern/reflectlite: a nil value of one interface type handed on as a value of another")
    |_=>storeVar dst a val
   else storeVar dst a (.iface src val)
  else panicString ("reflectlite.Set: value of type " ++ (← Rtype.spelt src) ++ " is not assignable to type " ++ (← Rtype.spelt dst))
  pure (.tuple #[])):=rfl
theorem ftParts1(a:Addr)(w:World):(ReflectliteValue.parts (.agg #[.pointer (some ⟨10,62,none⟩),.pointer (some a),.int .u64 406])).run Tryd.prog w=.ok (some (62,a,406)) w:=by kernel_rfl
theorem ftParts2(a:Addr)(w:World):(ReflectliteValue.parts (.agg #[.pointer (some ⟨10,62,none⟩),.pointer (some a),.int .u64 150])).run Tryd.prog w=.ok (some (62,a,150)) w:=by kernel_rfl
theorem ftDirect(w:World):(Rtype.directlyAssignable 62 62).run Tryd.prog w=.ok true w:=by kernel_rfl
theorem ftSet(ta b e:Addr)(old:Value)(W:World)(hb:W.cell? b=some (.pointer (some e)))(ht:W.cell? ta=some old)(hf:W.frozen? ta=false) :
  (callFunc 70 #[.agg #[.pointer (some ⟨10,62,none⟩),.pointer (some ta),.int .u64 406],.agg #[.pointer (some ⟨10,62,none⟩),.pointer (some b),.int .u64 150]]).run Tryd.prog W=.ok (Next.value (.tuple #[])) (W.setCell ta (.pointer (some e))):=by
 rw[@run_callFunc_extern Tryd.prog 70 _ ReflectliteValue.set Tryd.func70 (by kernel_rfl) (by kernel_rfl) (by kernel_rfl) (by kernel_rfl)];rw[rls];simp only[Sem.run_bind,ftParts1,ftParts2,Result.andThen]
 simp[ReflectliteValue.flagAddr,loadVar,isAgg,underlying,Tryd.underlying62,hb,Result.andThen,ftDirect,storeVar,Value.cells,storeCells,Addr.add];rw[run_store Tryd.prog W ta _ _ (by rfl)];simp[ht,hf]
theorem as_hit(e t:Addr)(old:Value)(w:World)(hg:w.cell? ⟨4,0,none⟩=some (.iface 146 (.agg #[.pointer (some ⟨10,31,none⟩)])))(ht0:w.cell? t=some old)(hf0:w.frozen? t=false) :
  Calls Tryd.prog 23 #[.iface 62 (.pointer (some e)),.iface 64 (.pointer (some t))] w fun ev w'=>ev=.returned (.bool true)∧Mod (fun x=>x=t.block) w w'∧w'.cell? t=some (.pointer (some e)):=by
 have f6:=asValueOf;have f7:=asType;have mK:=asMethodKind;have mE:=asMethodElem;have mI:=asMethodImplements;have mA:=asMethodAssignableTo;have k1:=asKind1;have k2:=asKind2;have e1:=asElem;have i1:=asImplements;have tO:=ftTypeOf;have a1:=ftAssignable;have v1:=ftValueOf
 have hlt : 4 < w.heap.size:=World.block_lt_of_cell? _ _ hg;have htl:t.block<w.heap.size:=World.block_lt_of_cell? _ _ ht0
 have n8:=asIsNil ⟨w.heap.size,0,none⟩ t ((w.alloc (.cells #[.pointer (some t)] 64)).alloc (.cells #[.pointer (some ⟨10,64,none⟩),.pointer (some ⟨w.heap.size,0,none⟩),.int .u64 150] 100)) (by simp)
 have hg2:((w.alloc (.cells #[.pointer (some t)] 64)).alloc (.cells #[.pointer (some ⟨10,64,none⟩),.pointer (some ⟨w.heap.size,0,none⟩),.int .u64 150] 100)).cell? ⟨4,0,none⟩=some (.iface 146 (.agg #[.pointer (some ⟨10,31,none⟩)])):=by
  rw[World.cell?_alloc_lt _ _ ⟨4,0,none⟩ (by simp;omega),World.cell?_alloc_lt _ _ ⟨4,0,none⟩ hlt];exact hg
 have el:=ftElem ⟨w.heap.size,0,none⟩ t (((w.alloc (.cells #[.pointer (some t)] 64)).alloc (.cells #[.pointer (some ⟨10,64,none⟩),.pointer (some ⟨w.heap.size,0,none⟩),.int .u64 150] 100)).alloc (.cells #[.pointer (some ⟨10,64,none⟩),.pointer (some ⟨w.heap.size,0,none⟩),.int .u64 150] 100)) (by rw[World.cell?_alloc_lt _ _ ⟨w.heap.size,0,none⟩ (by simp;omega)];simp)
 have ht4:((((w.alloc (.cells #[.pointer (some t)] 64)).alloc (.cells #[.pointer (some ⟨10,64,none⟩),.pointer (some ⟨w.heap.size,0,none⟩),.int .u64 150] 100)).alloc (.cells #[.pointer (some ⟨10,64,none⟩),.pointer (some ⟨w.heap.size,0,none⟩),.int .u64 150] 100)).alloc (.cells #[.pointer (some e)] 62)).cell? t=some old:=by
  rw[World.cell?_alloc_lt _ _ t (by simp;omega),World.cell?_alloc_lt _ _ t (by simp;omega),World.cell?_alloc_lt _ _ t (by simp;omega),World.cell?_alloc_lt _ _ t htl];exact ht0
 have hf4:((((w.alloc (.cells #[.pointer (some t)] 64)).alloc (.cells #[.pointer (some ⟨10,64,none⟩),.pointer (some ⟨w.heap.size,0,none⟩),.int .u64 150] 100)).alloc (.cells #[.pointer (some ⟨10,64,none⟩),.pointer (some ⟨w.heap.size,0,none⟩),.int .u64 150] 100)).alloc (.cells #[.pointer (some e)] 62)).frozen? t=false:=by
  rw[World.frozen?_alloc_old _ _ t (by simp;omega),World.frozen?_alloc_old _ _ t (by simp;omega),World.frozen?_alloc_old _ _ t (by simp;omega),World.frozen?_alloc_old _ _ t (Nat.ne_of_lt htl)];exact hf0
 have st:=ftSet t ⟨w.heap.size+1+1+1,0,none⟩ e old ((((w.alloc (.cells #[.pointer (some t)] 64)).alloc (.cells #[.pointer (some ⟨10,64,none⟩),.pointer (some ⟨w.heap.size,0,none⟩),.int .u64 150] 100)).alloc (.cells #[.pointer (some ⟨10,64,none⟩),.pointer (some ⟨w.heap.size,0,none⟩),.int .u64 150] 100)).alloc (.cells #[.pointer (some e)] 62)) (by rw[World.cell?_alloc_at _ _ _ _ (by simp)];rfl) ht4 hf4
 have Ht4:=Lib.hid ht4;clear ht4 hf4
 go_enter Tryd.func23,Tryd.ntmps23
 go_wp2;refine wp_loop_rounds 1 ?_;rw[rounds_succ];go_wp2;go_ret;refine ⟨rfl,?_,?_⟩
 ·exact (((((Mod.refl (fun x=>x=t.block) w).alloc _).alloc _).alloc _).alloc _).setCell (fun _=>rfl) _
 ·exact World.cell?_setCell_same _ _ _ Ht4.out
end Go.Proofs.YtciaficoeajeaaaDoor
