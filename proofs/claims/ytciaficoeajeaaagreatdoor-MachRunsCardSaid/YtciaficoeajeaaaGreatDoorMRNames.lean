/- (*quiescentref1.Machine).names, .fence. -/
import Derived.Test.YtciaficoeajeaaaGreatDoorMRm6
import Derived.Test.YtciaficoeajeaaaGreatDoorMRm2
import Derived.Deep.RegionWith
import Derived.WalkSpells
set_option linter.unusedVariables false
set_option linter.unusedSimpArgs false
set_option linter.unusedSectionVars false
namespace Go.Proofs.YtciaficoeajeaaaGreatDoor
open Go.RowKit Qs Qh
variable {w:World}{L:Lay}{m:M}{N:Int}
theorem names_ok(X:Mach ty w L m N)(hN:N≤1000000000000)(n:Int)(hw:isWord n=true){c g:Int}(hn:m.names n=some (c,g)) :
  Calls Tryz.prog 50 #[.pointer (some ⟨L.blk 0 0,0,none⟩),.int .i64 n] w fun e w'=>e=.returned (.tuple #[.agg #[.int .i64 c,.int .i64 g],.bool true])∧Mod noF w w':=by
 have hr:refV n=(c,g,0)∧hereIn m.cells c g=true:=by
  unfold M.names at hn;unfold refV
  cases h:refOf n with
  |none=>rw[h]at hn;cases hn
  |some p=>
   obtain ⟨a,b⟩:=p;rw[h]at hn;simp only at hn
   split at hn
   ·rename_i hh;cases hn;exact ⟨rfl,hh⟩
   ·cases hn
 obtain ⟨hr,hh⟩:=hr
 have hb:0≤n∧n<4294967296:=by simpa[isWord,W32]using hw
 obtain ⟨t0,t1,t2,t3,t4,t5⟩:=X.top;have HX:=Lib.hid X;have Hr:=Lib.hid hr;have Hh:=Lib.hid hh;clear X hr hh hn hw
 go_enter Tryz.func50,Tryz.ntmps50
 go_wp2_with fail
 refine (refOf_any n _ (by omega) (by omega)).mono ?_;rintro e w1 ⟨rfl,hm⟩;rw[Hr.out];have hm1:Mod noF w w1:=((Mod.refl _ _).alloc _).trans0 hm;have r0:w1.cell? ⟨w.heap.size,0,none⟩=some (.int .i64 0):=hm.cell (by simp) (fun e=>e)
 have r1:w1.cell? ⟨w.heap.size,1,none⟩=some (.int .i64 0):=hm.cell (by simp) (fun e=>e);have he1:w1.heap[w.heap.size]?=some (.cells #[.int .i64 0,.int .i64 0] 101 (0,0)):=hm.heap (heap_alloc_new w _) (fun e=>e);have He1:=Lib.hid he1;have s0:=hm1.cell t0 (fun e=>e)
 have hs1:w.heap.size<w1.heap.size:=by have:=hm.size;simp at this;omega
 have Hm1:=Lib.hid hm1;clear hm hm1 he1;go_wp2;have X1:=HX.out.frame0 Hm1.out
 have hb0:L.blk 0 0<w1.heap.size:=by omega
 have hcall:=here_any (N:=N) (X1.rep.frame0 (w':=(w1.alloc (.cells #[.int .i64 c,.int .i64 g] 101)).drew) ((Mod.refl _ _).alloc _).drew) rfl rfl X1.om X1.ol hN c g;rw[Hh.out]at hcall;have Hcall:=Lib.hid hcall;clear X1 hcall
 go_region_with (go_at_call 97;refine Hcall.out.mono ?_;rintro e w5 ⟨rfl,hm5⟩)
 all_goals
  have q0:w5.cell? ⟨w1.heap.size,0,none⟩=some (.int .i64 c):=hm5.cell (by simp) (fun e=>e);have q1:w5.cell? ⟨w1.heap.size,1,none⟩=some (.int .i64 g):=hm5.cell (by simp) (fun e=>e)
  have he5:w5.heap[w.heap.size]?=some (.cells #[.int .i64 0,.int .i64 0] 101 (0,0)):=hm5.heap ((Below.heap_alloc w1 _ _ hs1).trans He1.out) (fun e=>e)
  have q2:w5.cell? ⟨w.heap.size,0,none⟩=some (.int .i64 0):=by rw[cell_of_heap he5];rfl
  have q3:w5.cell? ⟨w.heap.size,1,none⟩=some (.int .i64 0):=by rw[cell_of_heap he5];rfl
  have q4:=free_of_heap he5 0;have q5:=free_of_heap he5 1;have hm6:Mod noF w w5:=(Hm1.out.trans0 ((Mod.refl _ _).alloc _).drew).trans0 hm5
  have hs5:w1.heap.size<w5.heap.size:=by have:=hm5.size;simp at this;omega
  have Hm6:=Lib.hid hm6;clear hm5 hm6 he5;go_wp2;refine bodyPost_ret (v:=.tuple #[.agg #[.int .i64 c,.int .i64 g],.bool true]) (by simp[results,Tryz.results50,go_sem,q2,q3]) rfl ⟨rfl,?_⟩
  exact (Hm6.out.setCell (fun h=>absurd h (by simp)) _).setCell (fun h=>absurd h (by simp)) _
theorem names_none(X:Mach ty w L m N)(hN:N≤1000000000000)(n:Int)(hw:isWord n=true)(hn:m.names n=none) :
  Calls Tryz.prog 50 #[.pointer (some ⟨L.blk 0 0,0,none⟩),.int .i64 n] w fun e w'=>∃c g,e=.returned (.tuple #[.agg #[.int .i64 c,.int .i64 g],.bool false])∧MUp ty w L m w' L m.fault (N+1):=by
 obtain ⟨c,g,z,hr,hz⟩:∃c g z,refV n=(c,g,z)∧(z=0→hereIn m.cells c g=false):=by
  unfold M.names at hn;unfold refV
  cases h:refOf n with
  |none=>exact ⟨0,0,_,rfl,fun e=>by split at e <;> cases e⟩
  |some p=>
   obtain ⟨a,b⟩:=p;rw[h]at hn;simp only at hn
   split at hn
   ·cases hn
   ·rename_i hh;exact ⟨a,b,0,rfl,fun _=>by simpa using hh⟩
 have hb:0≤n∧n<4294967296:=by simpa[isWord,W32]using hw
 obtain ⟨t0,t1,t2,t3,t4,t5⟩:=X.top;have hf:=X.ot.f0;have f3:=t4 3;have HX:=Lib.hid X;have Hr:=Lib.hid hr;have Hz:=Lib.hid hz;clear X hr hz hn hw t4
 go_enter Tryz.func50,Tryz.ntmps50
 go_wp2_with fail
 refine (refOf_any n _ (by omega) (by omega)).mono ?_;rintro e w1 ⟨rfl,hm⟩;rw[Hr.out];have hm1:Mod noF w w1:=((Mod.refl _ _).alloc _).trans0 hm;have he1:w1.heap[w.heap.size]?=some (.cells #[.int .i64 0,.int .i64 0] 101 (0,0)):=hm.heap (heap_alloc_new w _) (fun e=>e)
 have He1:=Lib.hid he1
 have hs1:w.heap.size<w1.heap.size:=by have:=hm.size;simp at this;omega
 have Hm1:=Lib.hid hm1;clear hm hm1 he1;have X1:=HX.out.frame0 Hm1.out;obtain ⟨s0,s1,s2,s3,s4,s5⟩:=X1.top;have s43:=s4 3;have HX1:=Lib.hid X1;clear X1 s4 t0 t1 t2 t3
 by_cases hz0:z=0
 ·subst hz0;have hcall:=here_any (N:=N) (HX1.out.rep.frame0 (w':=(w1.alloc (.cells #[.int .i64 c,.int .i64 g] 101)).drew) ((Mod.refl _ _).alloc _).drew) rfl rfl HX1.out.om HX1.out.ol hN c g;rw[Hz.out rfl]at hcall;have Hcall:=Lib.hid hcall;clear hcall;go_wp2
  go_region_with (go_at_call 97;refine Hcall.out.mono ?_;rintro e w5 ⟨rfl,hm5⟩)
  all_goals
   have q0:w5.cell? ⟨w1.heap.size,0,none⟩=some (.int .i64 c):=hm5.cell (by simp) (fun e=>e);have q1:w5.cell? ⟨w1.heap.size,1,none⟩=some (.int .i64 g):=hm5.cell (by simp) (fun e=>e)
   have he5:w5.heap[w.heap.size]?=some (.cells #[.int .i64 0,.int .i64 0] 101 (0,0)):=hm5.heap ((Below.heap_alloc w1 _ _ hs1).trans He1.out) (fun e=>e)
   have q2:w5.cell? ⟨w.heap.size,0,none⟩=some (.int .i64 0):=by rw[cell_of_heap he5];rfl
   have q3:w5.cell? ⟨w.heap.size,1,none⟩=some (.int .i64 0):=by rw[cell_of_heap he5];rfl
   have q4:=free_of_heap he5 0;have q5:=free_of_heap he5 1;have hm6:Mod noF w w5:=(Hm1.out.trans0 ((Mod.refl _ _).alloc _).drew).trans0 hm5
   have hs5:w1.heap.size<w5.heap.size:=by have:=hm5.size;simp at this;omega
   have X5:=HX.out.frame0 hm6;obtain ⟨x0,x1,x2,x3,x4,x5⟩:=X5.top;have x43:=x4 3;have HX5:=Lib.hid X5;have Hm6:=Lib.hid hm6;clear hm5 hm6 he5 X5 x4;go_wp2
   refine bodyPost_ret (v:=.tuple #[.agg #[.int .i64 c,.int .i64 g],.bool false]) (by simp[results,Tryz.results50,go_sem,q2,q3]) rfl ⟨c,g,rfl,?_⟩
   have U:=(MUp.quiet HX.out Hm6.out).trans (HX5.out.setFaults (N':=N+1) (m.faults+1) (by omega) (by omega) (by omega))
   have hnf:¬Foot ty allK L m.fault w.heap.size:=fun h=>by
    have:=HX.out.rep.lt (faults_foot ty allK L m (m.faults+1) _ h);omega
   exact MUp.poke HX.out (p:=⟨w.heap.size,1,none⟩) (MUp.poke HX.out (p:=⟨w.heap.size,0,none⟩) U (by simp) hnf _) (by simp) hnf _
 ·have hd:(z==0)=false:=by simpa using hz0
  have q2:w1.cell? ⟨w.heap.size,0,none⟩=some (.int .i64 0):=by rw[cell_of_heap He1.out];rfl
  have q3:w1.cell? ⟨w.heap.size,1,none⟩=some (.int .i64 0):=by rw[cell_of_heap He1.out];rfl
  have q4:=free_of_heap He1.out 0;have q5:=free_of_heap He1.out 1;go_wp2
  go_quiet (fail)
  go_wp2;refine bodyPost_ret (v:=.tuple #[.agg #[.int .i64 c,.int .i64 g],.bool false]) (by simp[results,Tryz.results50,go_sem,q2,q3,hs1]) rfl ⟨c,g,rfl,?_⟩
  have hm2:Mod noF w ((w1.alloc (.cells #[.int .i64 c,.int .i64 g] 101)).drewN nq):=Hm1.out.trans0 (((Mod.refl _ _).alloc _).drewN _);have U:=(MUp.quiet HX.out hm2).trans ((HX.out.frame0 hm2).setFaults (N':=N+1) (m.faults+1) (by omega) (by omega) (by omega))
  have hnf:¬Foot ty allK L m.fault w.heap.size:=fun h=>by
   have:=HX.out.rep.lt (faults_foot ty allK L m (m.faults+1) _ h);omega
  exact MUp.poke HX.out (p:=⟨w.heap.size,1,none⟩) (MUp.poke HX.out (p:=⟨w.heap.size,0,none⟩) U (by simp) hnf _) (by simp) hnf _
end Go.Proofs.YtciaficoeajeaaaGreatDoor
