/- Texts that belong together, joined. -/
import Derived.Test.YtciaficoeajeaaaGreatDoorMRNames
import Derived.Test.YtciaficoeajeaaaGreatDoorMRm3
import Derived.Test.YtciaficoeajeaaaGreatDoorMRm6
import Derived.Deep.QuietTactic
import Derived.BigQuiet
import Derived.RangeFuncNested
import Derived.Laws.StructEq
import Derived.Test.YtciaficoeajeaaaGreatDoorMRPStore
import Derived.Deep.RegionHeld3
import Derived.Test.YtciaficoeajeaaaGreatDoorMRm2
import Derived.StillTailTactics
import Derived.Test.YtciaficoeajeaaaGreatDoorMRStore
import Derived.LoopTactic
import Derived.Laws.CopyOwn
import Derived.Test.YtciaficoeajeaaaGreatDoorMRm5
import Derived.Lib.SliceRun
import Derived.Laws.AppendOwnNone
import Derived.OwnWalk
import Derived.Outline
import Derived.Test.YtciaficoeajeaaaGreatDoorMRFaultCode
set_option linter.unusedVariables false
set_option linter.unusedSimpArgs false
set_option linter.unusedSectionVars false
set_option maxHeartbeats 4000000
set_option maxRecDepth 100000
namespace Go.Proofs.YtciaficoeajeaaaGreatDoor
section
open Go.RowKit Qs Qh
variable {w:World}{L:Lay}{m:M}{N:Int}
theorem code_cell(X:Mach ty w L m N){t:Nat}{h:Thr}(ht:m.T[t]?=some h){x:Instr}(hx:h.code[h.pc]?=some x) :
  ∃b off c,L.code t=.slice (some ⟨b,off,none⟩) h.code.length c∧b<w.heap.size∧(∀j y,(instrVals x)[j]?=some y→w.cell? ⟨b,off+h.pc*5+j,none⟩=some y):=by
 obtain ⟨hc,_⟩:=X.codes t h ht;obtain ⟨a,c,e,_,hi⟩:=hc.at_;obtain ⟨b,off,rfl,hb,hcell⟩:=hi h.pc x hx;exact ⟨b,off,c,e,hb,hcell⟩
theorem code_slice(X:Mach ty w L m N){t:Nat}{h:Thr}(ht:m.T[t]?=some h):∃a c,L.code t=.slice a h.code.length c:=by
 obtain ⟨hc,_⟩:=X.codes t h ht;obtain ⟨a,c,e,_⟩:=hc.at_;exact ⟨a,c,e⟩
theorem label_callQ(X:Mach ty w L m N){t:Nat}{h:Thr}(hh:m.T[t]?=some h)(hlt:h.pc<h.code.length){a:Option Addr}{c:Nat}(e:L.code t=.slice a h.code.length c){to:List UInt8}{dto:ByteArray}(hd:(⟨to.toArray⟩:ByteArray)=dto){i:Nat}(hi:labelAt to h.code 0=some i)(W:World)
  (hq:Mod noF (w.setCell ⟨L.blk 4 0,t*3+2,none⟩ (.int .i64 ((h.pc:Int)+1))) W) :
  Calls Tryz.prog 56 #[.slice a h.code.length c,.string dto] W fun e w'=>e=.returned (.int .i64 (i:Int))∧w'=W:=by
 subst hd;have U:=((X.setPc hh (h.pc+1) (by omega))).then0 hq
 have hlen:h.code.length≤1000000:=by have:=(X.ot.code t h hh).2.len;omega
 have hT:(m.setPc t (h.pc+1)).T[t]?=some {h with pc:=h.pc+1}:=by
  have hl:t<m.T.length:=(List.getElem?_eq_some_iff.1 hh).1;unfold M.setPc;rw[modify_get _ hh];simp[hl]
 obtain ⟨a',c',e',_,hx⟩:=(U.mach.codes t _ hT).1.at_;rw[e]at e';cases e';refine (labelAt_any a c h.code to W hlen hx).mono fun e w' ⟨h1,h2⟩=>⟨?_,h2.symm⟩;rw[h1];unfold labE;rw[hi]
theorem done_any(X:Mach ty w L m N)(t:Nat)(ht:t<m.T.length) :
  Calls Tryz.prog 48 #[.pointer (some ⟨L.blk 0 0,0,none⟩),.int .i64 t] w fun e w'=>e=.returned (.bool (m.done t))∧Mod noF w w':=by
 obtain ⟨h,hh⟩:∃h,m.T[t]?=some h:=⟨_,List.getElem?_eq_getElem ht⟩
 have hthr:m.thr t=h:=by simp[M.thr,List.getD,hh]
 obtain ⟨t0,t1,t2,t3,t4,t5⟩:=X.top;obtain ⟨r0,r1,r2,r3,r4⟩:=X.thr_at hh;obtain ⟨hpc,hco⟩:=X.ot.code t h hh;have hlen:=hco.len
 have ht6:m.T.length≤6:=by have:=X.om.waits;have:=X.ot.len;omega
 have hsp:=X.olt.sp4
 have hdone:m.done t=(match h.code[h.pc]? with|none=>true|some x=>x.op==20):=by unfold M.done;rw[hthr];cases h.code[h.pc]? <;> rfl
 have d0:decide ((t:Int)<0)=false:=by simp
 have d1:decide ((m.T.length:Int)≤(t:Int))=false:=by simp;omega
 cases hx:h.code[h.pc]? with
 |none=>
  rw[hx]at hdone;obtain ⟨a,c,e⟩:=code_slice X hh;rw[e]at r0
  have hge:h.code.length≤h.pc:=by
   rcases Nat.lt_or_ge h.pc h.code.length with h'|h'
   ·rw[List.getElem?_eq_getElem h']at hx;cases hx
   ·exact h'
  have d2:decide ((h.code.length:Int)≤(h.pc:Int))=true:=by simp;omega
  have Hdone:=Lib.hid hdone;have Hh:=Lib.hid hh;clear hdone hthr hx X e hh t4 r3 hco
  go_enter Tryz.func48,Tryz.ntmps48
  go_wp2
  go_quiet (fail)
  go_wp2;go_ret;exact ⟨ret_bool (by rw[Hdone.out]),(Mod.refl _ _).drewN _⟩
 |some x=>
  rw[hx]at hdone;obtain ⟨b,off,c,e,hb,hcell⟩:=code_cell X hh hx;rw[e]at r0;have hlt:h.pc<h.code.length:=(List.getElem?_eq_some_iff.1 hx).1
  have d2:decide ((h.code.length:Int)≤(h.pc:Int))=false:=by simp;omega
  have hmem:x∈h.code:=List.mem_of_getElem? hx;have hle:=insOk_le (hco.ins x hmem);have c0:=hcell 0 _ rfl;simp only[Nat.add_zero]at c0
  have hst:((opStr x.op).toList==[115,116,111,112])=(x.op==20):=by
   rw[Bool.eq_iff_iff,beq_iff_eq,beq_iff_eq];exact opStr_stop hle
  generalize hs:opStr x.op=s at *;have Hs:=Lib.hid hs;have Hdone:=Lib.hid hdone;have Hst:=Lib.hid hst;clear hdone hthr hx X e hh t4 r3 hco hcell hs hmem hst
  go_enter Tryz.func48,Tryz.ntmps48
  go_wp2
  go_quiet (fail)
  go_wp2;go_ret;exact ⟨ret_bool (by rw[Hdone.out,←Hst.out,show decide (h.code.length≤h.pc)=false from decide_eq_false (by omega)];rfl),(Mod.refl _ _).drewN _⟩
end
section
open Go.RowKit Qs Qh
variable {w w1 w2 w':World}{X:XB}{vs vs':List Value}{mv mv':Value}{m m':M}{N:Int}
structure PX(w:World)(X:XB)(vs:List Value)(mv:Value)(m:M)(N:Int):Prop where
 p:PMach w X vs mv m
 om:OkM N m
 ot:OkT N m
theorem PX.keep0(h:PX w X vs mv m N)(hM:Mod noF w w'):PX w' X vs mv m N:=⟨h.p.keep0 hM,h.om,h.ot⟩
theorem PX.t6(h:PX w X vs mv m N):m.T.length≤6:=by have:=h.om.waits;have:=h.ot.len;omega
theorem pfault_nil(h:PMach w X vs mv m):Calls Tryz.prog 59 #[.pointer (some ⟨X.bX,0,none⟩),.nilIface] w fun e w'=>e=.returned (.bool false)∧w=w':=by
 go_enter Tryz.func59,Tryz.ntmps59
 go_wp2;go_ret;exact ⟨rfl,rfl⟩
theorem pfault_some(h:PMach w X vs mv m)(h0:0≤m.faults)(hN:m.faults≤100000000000)(T:TypeId)(v:Value) :
  Calls Tryz.prog 59 #[.pointer (some ⟨X.bX,0,none⟩),.iface T v] w fun e w'=>e=.returned (.bool true)∧w'=w.setCell ⟨X.bX,3,none⟩ (.int .i64 (m.faults+1)):=by
 obtain ⟨t0,t1,t2,t3,t4,t5⟩:=h.top_at;have H:=Lib.hid h;have f3:=t4 3;clear h t4
 go_enter Tryz.func59,Tryz.ntmps59
 go_wp2;go_ret;exact ⟨rfl,rfl⟩
theorem XUp.aside{m1:M}{g:Nat}(h0:PMach w X vs mv m)(hT:∀(t:Nat) k1,m1.T[t]?=some k1→∃k,m.T[t]?=some k)(h:XUp w X vs mv m w1 m1 vs mv)(hg:w.heap.size≤g)(hM:Mod (fun x=>x=g) w1 w2):XUp w X vs mv m w2 m1 vs mv:=by
 refine ⟨h.rep.keep hM (fun x hx e=>?_) (fun t k1 hk1=>?_),h.mod.trans hM (fun x hx e=>by omega),h.foot⟩
 ·have:=h0.lt hx;omega
 ·obtain ⟨k,hk⟩:=hT t k1 hk1;refine ⟨fun g' hg' e=>?_,fun e=>?_⟩
  ·have:=((h0.code t k hk).2 g' hg').2;omega
  ·have:=(h0.maps t k hk).1.lt;omega
theorem pfaults_any(h:PMach w X vs mv m):Calls Tryz.prog 30 #[.pointer (some ⟨X.bX,0,none⟩)] w fun e w'=>e=.returned (.int .i64 m.faults)∧w=w':=by
 obtain ⟨t0,t1,t2,t3,t4,t5⟩:=h.top_at;clear h t4
 go_enter Tryz.func30,Tryz.ntmps30
 go_wp2;go_ret;exact ⟨rfl,rfl⟩
theorem pcode_cell(P:PMach w X vs mv m){t:Nat}{h:Thr}(ht:m.T[t]?=some h){x:Instr}(hx:h.code[h.pc]?=some x) :
  ∃b off c,X.cv t=.slice (some ⟨b,off,none⟩) h.code.length c∧b<w.heap.size∧(∀j y,(instrVals x)[j]?=some y→w.cell? ⟨b,off+h.pc*5+j,none⟩=some y):=by
 obtain ⟨hc,_⟩:=P.code t h ht;obtain ⟨a,c,e,_,hi⟩:=hc.at_;obtain ⟨b,off,rfl,hb,hcell⟩:=hi h.pc x hx;exact ⟨b,off,c,e,hb,hcell⟩
theorem pcode_slice(P:PMach w X vs mv m){t:Nat}{h:Thr}(ht:m.T[t]?=some h):∃a c,X.cv t=.slice a h.code.length c:=by
 obtain ⟨hc,_⟩:=P.code t h ht;obtain ⟨a,c,e,_⟩:=hc.at_;exact ⟨a,c,e⟩
theorem pdone_any(H:PX w X vs mv m N)(t:Nat)(ht:t<m.T.length) :
  Calls Tryz.prog 20 #[.pointer (some ⟨X.bX,0,none⟩),.int .i64 t] w fun e w'=>e=.returned (.bool (m.done t))∧Mod noF w w':=by
 obtain ⟨h,hh⟩:∃h,m.T[t]?=some h:=⟨_,List.getElem?_eq_getElem ht⟩
 have hthr:m.thr t=h:=by simp[M.thr,List.getD,hh]
 obtain ⟨t0,t1,t2,t3,t4,t5⟩:=H.p.top_at;obtain ⟨r1,r2,r3⟩:=H.p.thr_at hh;have r0:w.cell? ⟨X.bL,t*11,none⟩=some (X.cv t):=r1 0 _ rfl;have r10:w.cell? ⟨X.bL,t*11+10,none⟩=some (.int .i64 (h.pc:Nat)):=r1 10 _ rfl;obtain ⟨hpc,hco⟩:=H.ot.code t h hh;have hlen:=hco.len;have ht6:=H.t6
 have hdone:m.done t=(match h.code[h.pc]? with|none=>true|some x=>x.op==20):=by unfold M.done;rw[hthr];cases h.code[h.pc]? <;> rfl
 have d0:decide ((t:Int)<0)=false:=by simp
 have d1:decide ((m.T.length:Int)≤(t:Int))=false:=by simp;omega
 cases hx:h.code[h.pc]? with
 |none=>
  rw[hx]at hdone;obtain ⟨a,c,e⟩:=pcode_slice H.p hh;rw[e]at r0
  have hge:h.code.length≤h.pc:=by
   rcases Nat.lt_or_ge h.pc h.code.length with h'|h'
   ·rw[List.getElem?_eq_getElem h']at hx;cases hx
   ·exact h'
  have d2:decide ((h.code.length:Int)≤(h.pc:Int))=true:=by simp;omega
  have Hdone:=Lib.hid hdone;have Hh:=Lib.hid hh;clear hdone hthr hx H e hh t4 r1 r2 hco
  go_enter Tryz.func20,Tryz.ntmps20
  go_wp2
  try go_quiet (fail)
  try go_wp2
  go_ret;exact ⟨ret_bool (by rw[Hdone.out]),by first|exact (Mod.refl _ _).drewN _|exact Mod.refl _ _⟩
 |some x=>
  rw[hx]at hdone;obtain ⟨b,off,c,e,hb,hcell⟩:=pcode_cell H.p hh hx;rw[e]at r0;have hlt:h.pc<h.code.length:=(List.getElem?_eq_some_iff.1 hx).1
  have d2:decide ((h.code.length:Int)≤(h.pc:Int))=false:=by simp;omega
  have hmem:x∈h.code:=List.mem_of_getElem? hx;have hle:=insOk_le (hco.ins x hmem);have c0:=hcell 0 _ rfl;simp only[Nat.add_zero]at c0
  have hst:((opStr x.op).toList==[115,116,111,112])=(x.op==20):=by
   rw[Bool.eq_iff_iff,beq_iff_eq,beq_iff_eq];exact opStr_stop hle
  generalize hs:opStr x.op=s at *;have Hs:=Lib.hid hs;have Hdone:=Lib.hid hdone;have Hst:=Lib.hid hst;clear hdone hthr hx H e hh t4 r1 r2 hco hcell hs hmem hst
  go_enter Tryz.func20,Tryz.ntmps20
  go_wp2
  try go_quiet (fail)
  try go_wp2
  go_ret;exact ⟨ret_bool (by rw[Hdone.out,←Hst.out,show decide (h.code.length≤h.pc)=false from decide_eq_false (by omega)];rfl),by first|exact (Mod.refl _ _).drewN _|exact Mod.refl _ _⟩
end
section
open Go.RowKit Go.Shelf Qs Qh
attribute [local go_sem] Oper.semAt_some
variable {w:World}{B:PB}{l:List Cell}{ws:List (List Wt)}{vs:List Value}{a:Nat→Addr}
theorem leavesM_nil{F:Fence}{n:Nat}{P:Program}{fn:Func}{tmps:Array Value}{R:Ending→World→Prop}{v:Value}{w:World}(h1:(results fn tmps).run P w=.ok v w)(h2:R (.returned v) w):LeavesInM F n P fn tmps R [] .returning w:=⟨v,h1,h2⟩
abbrev intBox(n:Int):Obj:=.cells #[.int .i64 n] 3
abbrev errBox(v:Value):Obj:=.cells #[v] 31
theorem heap4(w:World)(a b c d:Obj):((((w.alloc a).alloc b).alloc c).alloc d).heap[w.heap.size]?=some a∧((((w.alloc a).alloc b).alloc c).alloc d).heap[w.heap.size+1]?=some b∧((((w.alloc a).alloc b).alloc c).alloc d).heap[w.heap.size+1+1]?=some c∧((((w.alloc a).alloc b).alloc c).alloc d).heap[w.heap.size+1+1+1]?=some d:=by
 have up:∀(x:World) (o:Obj) {k:Nat} {u:Obj},x.heap[k]?=some u→(x.alloc o).heap[k]?=some u:=fun x o k u h=>(Below.heap_alloc x o k (lt_of_block h)).trans h;have h1:=heap_alloc_new w a;have h2:=heap_alloc_new (w.alloc a) b;have h3:=heap_alloc_new ((w.alloc a).alloc b) c
 have h4:=heap_alloc_new (((w.alloc a).alloc b).alloc c) d;simp only[World.size_alloc]at h2 h3 h4;exact ⟨up _ _ (up _ _ (up _ _ h1)),up _ _ (up _ _ h2),up _ _ h3,h4⟩
theorem pload_err2(h:PMV w B l ws vs)(E:Errs4 w a)(hn:l.length≤64)(ht:timesOk l){t:Nat}{q:List Wt}(hq:ws[t]?=some q)(c r W_:Int)(he:loadE l c r W_=(0,2)) :
  Calls Tryz.prog 88 #[.pointer (some ⟨B.bM,0,none⟩),.int .i64 t,.agg #[.int .i64 c,.int .i64 r],.int .i64 W_] w fun e w'=>e=.returned (.tuple #[.int .i64 0,errOf' a 2])∧Mod noF w w':=by
 simp only[errOf',errV,show ((2:Int)=0)=False by decide,if_false,show (2:Int).toNat - 1=1 from rfl];have htl:=(List.getElem?_eq_some_iff.1 hq).1;have hq0:=(((((Mod.refl noF w).alloc (refBox c r)).alloc (intBox W_)).alloc (intBox 0)).alloc (errBox .nilIface));have h2:=h.keep0 hq0
 have hbx:=heap4 w (refBox c r) (intBox W_) (intBox 0) (errBox .nilIface);have E2:=E.keep hq0;obtain ⟨wz,hwz⟩:∃wz,wz=(((w.alloc (refBox c r)).alloc (intBox W_)).alloc (intBox 0)).alloc (errBox .nilIface):=⟨_,rfl⟩;rw[←hwz]at h2 hbx E2 hq0;obtain ⟨bx0,bx1,bx2,bx3⟩:=hbx
 have hS:∀W,Mod noF wz.drew W→(Mod noF wz.drew W∧W.cell? ⟨B.bM,0,none⟩=some (.pointer (some ⟨B.bA,0,none⟩))∧W.cell? ⟨w.heap.size,0,none⟩=some (.int .i64 c)∧W.cell? ⟨w.heap.size,1,none⟩=some (.int .i64 r)∧W.cell? ⟨w.heap.size+1,0,none⟩=some (.int .i64 W_)):=by
  intro W hW;have hz:=(Mod.refl noF wz).drew.trans0 hW;have hx:=hz.heap bx0 (fun e=>e);exact ⟨hW,(h2.keep0 hz).ptr,(cell_of_heap hx 0).trans rfl,(cell_of_heap hx 1).trans rfl,(cell_of_heap (hz.heap bx1 (fun e=>e)) 0).trans rfl⟩
 have hcall:∀W,Mod noF wz.drew W→Calls Tryz.prog 104 #[.pointer (some ⟨B.bA,0,none⟩),.agg #[.int .i64 c,.int .i64 r],.int .i64 W_] W fun e w'=>e=.returned (.tuple #[.int .i64 (loadE l c r W_).1,errOf' a (loadE l c r W_).2])∧Mod noF wz.drew W∧Mod noF wz.drew w':=by
  intro W hW;have hz:=(Mod.refl noF wz).drew.trans0 hW;exact (aload_any (h2.keep0 hz).arena (E2.keep hz) hn ht c r W_).mono fun e w' h=>⟨h.1,hW,hW.trans0 h.2⟩
 rw[he]at hcall;simp only[errOf',errV,show ((2:Int)=0)=False by decide,if_false,show (2:Int).toNat - 1=1 from rfl]at hcall;obtain ⟨-,z0,z1,z2,z3⟩:=hS wz.drew (Mod.refl _ _);have zb:=h2.lt (x:=B.bM) (.inl rfl);have zx:=lt_of_block bx0;have zx1:=lt_of_block bx1;have HS:=Lib.hid hS
 have Hcall:=Lib.hid hcall;have H:=Lib.hid h2;have HE:=Lib.hid E2;have Hq:=Lib.hid hq;have Hq0:=Lib.hid hq0;have Bx0:=Lib.hid bx0;have Bx1:=Lib.hid bx1;have Bx2:=Lib.hid bx2;have Bx3:=Lib.hid bx3;clear hcall h h2 hq0 E E2 ht hq he bx0 bx1 bx2 bx3 hS;refine (callsIn_wide (n:=6)).1 ?_
 refine callsIn_of_wp_marks Tryz.func88 rfl trivial ?_ rfl;refine wpIn_wide.2 ?_
 simp only[Tryz.ntmps88,List.size_toArray,List.length_cons,List.length_nil,Nat.reduceAdd,Nat.reduceSub,Array.replicate_succ,Array.replicate_zero,List.push_toArray,List.append_toArray,List.nil_append,List.cons_append]
 go_wp2_with fail
 rw[←hwz];refine (pthread_ok H.out t htl).mono ?_;rintro e w' ⟨rfl,rfl⟩;clear hwz;go_wp2
 go_region_held3 (fun W=>Mod noF wz.drew W∧W.cell? ⟨B.bM,0,none⟩=some (.pointer (some ⟨B.bA,0,none⟩))∧W.cell? ⟨w.heap.size,0,none⟩=some (.int .i64 c)∧W.cell? ⟨w.heap.size,1,none⟩=some (.int .i64 r)∧W.cell? ⟨w.heap.size+1,0,none⟩=some (.int .i64 W_)) ((refine HS.out _ ?_;first|assumption|exact Mod.refl _ _)) (first|(go_at_call 104;go_split_ands;refine (Hcall.out _ ?_).mono ?_;assumption;rintro e w1 ⟨rfl,hm0,hm1⟩))
 have hm1:=(Mod.refl noF wz).drew.trans0 hm1;have hx2:=hm1.heap Bx2.out (fun e=>e);have hx3:=hm1.heap Bx3.out (fun e=>e);have y2:w1.cell? ⟨w.heap.size+1+1,0,none⟩=some (.int .i64 0):=(cell_of_heap hx2 0).trans rfl
 have y3:w1.cell? ⟨w.heap.size+1+1+1,0,none⟩=some .nilIface:=(cell_of_heap hx3 0).trans rfl;have f2:=free_of_heap hx2 0;have f3:=free_of_heap hx3 0;have yb2:=lt_of_block hx2;have yb3:=lt_of_block hx3;have Hm1:=Lib.hid hm1;clear hm1;go_wp2
 refine leavesM_nil (v:=.tuple #[.int .i64 0,errV a 1]) (by simp[results,Tryz.results88,go_sem,errV,y2,y3]) ⟨rfl,((Hq0.out.trans0 Hm1.out).setCell (fun h=>by simp at h;omega) _).setCell (fun h=>by simp at h;omega) _⟩
theorem pload_err7(h:PMV w B l ws vs)(E:Errs4 w a)(hn:l.length≤64)(ht:timesOk l){t:Nat}{q:List Wt}(hq:ws[t]?=some q)(c r W_:Int)(he:loadE l c r W_=(0,7)) :
  Calls Tryz.prog 88 #[.pointer (some ⟨B.bM,0,none⟩),.int .i64 t,.agg #[.int .i64 c,.int .i64 r],.int .i64 W_] w fun e w'=>e=.returned (.tuple #[.int .i64 0,errOf' a 7])∧Mod noF w w':=by
 simp only[errOf',errV,show ((7:Int)=0)=False by decide,if_false,show (7:Int).toNat - 1=6 from rfl];have htl:=(List.getElem?_eq_some_iff.1 hq).1;have hq0:=(((((Mod.refl noF w).alloc (refBox c r)).alloc (intBox W_)).alloc (intBox 0)).alloc (errBox .nilIface));have h2:=h.keep0 hq0
 have hbx:=heap4 w (refBox c r) (intBox W_) (intBox 0) (errBox .nilIface);have E2:=E.keep hq0;obtain ⟨wz,hwz⟩:∃wz,wz=(((w.alloc (refBox c r)).alloc (intBox W_)).alloc (intBox 0)).alloc (errBox .nilIface):=⟨_,rfl⟩;rw[←hwz]at h2 hbx E2 hq0;obtain ⟨bx0,bx1,bx2,bx3⟩:=hbx
 have hS:∀W,Mod noF wz.drew W→(Mod noF wz.drew W∧W.cell? ⟨B.bM,0,none⟩=some (.pointer (some ⟨B.bA,0,none⟩))∧W.cell? ⟨w.heap.size,0,none⟩=some (.int .i64 c)∧W.cell? ⟨w.heap.size,1,none⟩=some (.int .i64 r)∧W.cell? ⟨w.heap.size+1,0,none⟩=some (.int .i64 W_)):=by
  intro W hW;have hz:=(Mod.refl noF wz).drew.trans0 hW;have hx:=hz.heap bx0 (fun e=>e);exact ⟨hW,(h2.keep0 hz).ptr,(cell_of_heap hx 0).trans rfl,(cell_of_heap hx 1).trans rfl,(cell_of_heap (hz.heap bx1 (fun e=>e)) 0).trans rfl⟩
 have hcall:∀W,Mod noF wz.drew W→Calls Tryz.prog 104 #[.pointer (some ⟨B.bA,0,none⟩),.agg #[.int .i64 c,.int .i64 r],.int .i64 W_] W fun e w'=>e=.returned (.tuple #[.int .i64 (loadE l c r W_).1,errOf' a (loadE l c r W_).2])∧Mod noF wz.drew W∧Mod noF wz.drew w':=by
  intro W hW;have hz:=(Mod.refl noF wz).drew.trans0 hW;exact (aload_any (h2.keep0 hz).arena (E2.keep hz) hn ht c r W_).mono fun e w' h=>⟨h.1,hW,hW.trans0 h.2⟩
 rw[he]at hcall;simp only[errOf',errV,show ((7:Int)=0)=False by decide,if_false,show (7:Int).toNat - 1=6 from rfl]at hcall;obtain ⟨-,z0,z1,z2,z3⟩:=hS wz.drew (Mod.refl _ _);have zb:=h2.lt (x:=B.bM) (.inl rfl);have zx:=lt_of_block bx0;have zx1:=lt_of_block bx1;have HS:=Lib.hid hS
 have Hcall:=Lib.hid hcall;have H:=Lib.hid h2;have HE:=Lib.hid E2;have Hq:=Lib.hid hq;have Hq0:=Lib.hid hq0;have Bx0:=Lib.hid bx0;have Bx1:=Lib.hid bx1;have Bx2:=Lib.hid bx2;have Bx3:=Lib.hid bx3;clear hcall h h2 hq0 E E2 ht hq he bx0 bx1 bx2 bx3 hS;refine (callsIn_wide (n:=6)).1 ?_
 refine callsIn_of_wp_marks Tryz.func88 rfl trivial ?_ rfl;refine wpIn_wide.2 ?_
 simp only[Tryz.ntmps88,List.size_toArray,List.length_cons,List.length_nil,Nat.reduceAdd,Nat.reduceSub,Array.replicate_succ,Array.replicate_zero,List.push_toArray,List.append_toArray,List.nil_append,List.cons_append]
 go_wp2_with fail
 rw[←hwz];refine (pthread_ok H.out t htl).mono ?_;rintro e w' ⟨rfl,rfl⟩;clear hwz;go_wp2
 go_region_held3 (fun W=>Mod noF wz.drew W∧W.cell? ⟨B.bM,0,none⟩=some (.pointer (some ⟨B.bA,0,none⟩))∧W.cell? ⟨w.heap.size,0,none⟩=some (.int .i64 c)∧W.cell? ⟨w.heap.size,1,none⟩=some (.int .i64 r)∧W.cell? ⟨w.heap.size+1,0,none⟩=some (.int .i64 W_)) ((refine HS.out _ ?_;first|assumption|exact Mod.refl _ _)) (first|(go_at_call 104;go_split_ands;refine (Hcall.out _ ?_).mono ?_;assumption;rintro e w1 ⟨rfl,hm0,hm1⟩))
 have hm1:=(Mod.refl noF wz).drew.trans0 hm1;have hx2:=hm1.heap Bx2.out (fun e=>e);have hx3:=hm1.heap Bx3.out (fun e=>e);have y2:w1.cell? ⟨w.heap.size+1+1,0,none⟩=some (.int .i64 0):=(cell_of_heap hx2 0).trans rfl
 have y3:w1.cell? ⟨w.heap.size+1+1+1,0,none⟩=some .nilIface:=(cell_of_heap hx3 0).trans rfl;have f2:=free_of_heap hx2 0;have f3:=free_of_heap hx3 0;have yb2:=lt_of_block hx2;have yb3:=lt_of_block hx3;have Hm1:=Lib.hid hm1;clear hm1;go_wp2
 refine leavesM_nil (v:=.tuple #[.int .i64 0,errV a 6]) (by simp[results,Tryz.results88,go_sem,errV,y2,y3]) ⟨rfl,((Hq0.out.trans0 Hm1.out).setCell (fun h=>by simp at h;omega) _).setCell (fun h=>by simp at h;omega) _⟩
structure LBox(W:World)(N:Nat)(c r W_:Int)(u2 u3:Value):Prop where
 b0:W.heap[N]?=some (refBox c r)
 b1:W.heap[N+1]?=some (intBox W_)
 b2:W.heap[N+1+1]?=some (.cells #[u2] 3)
 b3:W.heap[N+1+1+1]?=some (errBox u3)
theorem block_kept{X Y:World}{row:Option Nat}{b Bd:Nat}{o:Obj}(h:X.heap[b]?=some o)(hc:o.isCells=true)(hg:X.grownBy Y row)(hrow:∀r,row=some r→Bd≤r∧∃o:Obj,X.heap[r]?=some o∧o.isCells=false):Y.heap[b]?=some o:=by
 refine (hg.block b (lt_of_block h) fun e=>?_).trans h;obtain ⟨_,o',h1,h2⟩:=hrow b e.symm;rw[h]at h1;cases h1;rw[hc]at h2;cases h2
theorem LBox.kept{X Y:World}{row:Option Nat}{N Bd:Nat}{c r W_:Int}{u2 u3:Value}(h:LBox X N c r W_ u2 u3)(hg:X.grownBy Y row)(hrow:∀r,row=some r→Bd≤r∧∃o:Obj,X.heap[r]?=some o∧o.isCells=false):LBox Y N c r W_ u2 u3:=
 ⟨block_kept h.b0 rfl hg hrow,block_kept h.b1 rfl hg hrow,block_kept h.b2 rfl hg hrow,block_kept h.b3 rfl hg hrow⟩
theorem LBox.mod{X Y:World}{N:Nat}{c r W_:Int}{u2 u3:Value}(h:LBox X N c r W_ u2 u3)(hM:Mod noF X Y):LBox Y N c r W_ u2 u3:=
 ⟨hM.heap h.b0 (fun e=>e),hM.heap h.b1 (fun e=>e),hM.heap h.b2 (fun e=>e),hM.heap h.b3 (fun e=>e)⟩
theorem LBox.set{X:World}{N:Nat}{c r W_:Int}{u2 u3:Value}(h:LBox X N c r W_ u2 u3)(v2 v3:Value):LBox ((X.setCell ⟨N+1+1,0,none⟩ v2).setCell ⟨N+1+1+1,0,none⟩ v3) N c r W_ v2 v3:=by
 have o:∀(b:Nat) (u:Obj),b≠N+1+1→b≠N+1+1+1→X.heap[b]?=some u→((X.setCell ⟨N+1+1,0,none⟩ v2).setCell ⟨N+1+1+1,0,none⟩ v3).heap[b]?=some u:=fun b u h1 h2 hb=>(Qh.heap_setCell_other h2 _).trans ((Qh.heap_setCell_other h1 _).trans hb)
 refine ⟨o _ _ (by omega) (by omega) h.b0,o _ _ (by omega) (by omega) h.b1,?_,?_⟩
 ·refine (Qh.heap_setCell_other (by omega) _).trans ?_;have:=Qh.heap_setCell_same h.b2 0 v2
  simpa using this
 ·have h3:=(Qh.heap_setCell_other (w:=X) (k:=N+1+1+1) (b:=N+1+1) (i:=0) (by omega) v2).trans h.b3;have:=Qh.heap_setCell_same h3 0 v3
  simpa using this
def loadTmps(bM bA bW w1s N rc:Nat)(ra:Option Addr)(t qn wn:Nat)(c r W_ x:Int)(Bx:Nat)(y:Nat × Wt):Array Value:=#[.pointer (some ⟨bM,0,none⟩),.int .i64 t,.agg #[.int .i64 c,.int .i64 r],.int .i64 W_,undef,undef,.pointer (some ⟨N,0,none⟩),.pointer (some ⟨N+1,0,none⟩),.pointer (some ⟨N+1+1,0,none⟩),.pointer (some ⟨N+1+1+1,0,none⟩),.nilIface,.int .i64 x,.nilIface,undef,.pointer (some ⟨Bx,0,none⟩),.pointer (some ⟨bM,0,none⟩),.int .i64 t,.nilIface,.nilIface,.bool false,undef,.tuple #[.int .i64 x,.nilIface],.pointer (some ⟨bM,0,none⟩),.pointer (some ⟨bM,0,none⟩),.pointer (some ⟨bM,0,none⟩),.pointer (some ⟨bA,0,none⟩),.agg #[.int .i64 c,.int .i64 r],.int .i64 W_,.tuple #[.int .i64 x,.nilIface],.int .i64 x,.nilIface,.nilIface,.bool false,undef,.pointer (some ⟨bM,0,none⟩),.pointer (some ⟨bM,0,none⟩),.pointer (some ⟨bM,1,none⟩),.slice (some ⟨bW,0,none⟩) wn wn,.int .i64 t,.pointer (some ⟨bW,t,none⟩),.slice ra qn rc,.func (.func 132) #[] #[.pointer (some ⟨w1s,0,none⟩)],.int .i64 (y.1:Int),.agg #[.int .i64 y.2.c,.int .i64 y.2.g,.int .i64 y.2.w,.int .i64 y.2.v],undef,undef,undef,undef,undef,undef,undef,undef,undef,undef,undef,undef,undef]
theorem pload_ok(h:PMV w B l ws vs)(E:Errs4 w a)(hn:l.length≤64)(ht:timesOk l)(hn6:ws.length≤6){t:Nat}{q:List Wt}(hq:ws[t]?=some q)(hql:q.length≤8)(c r W_ x:Int)(he:loadE l c r W_=(x,0)) :
  Calls Tryz.prog 88 #[.pointer (some ⟨B.bM,0,none⟩),.int .i64 t,.agg #[.int .i64 c,.int .i64 r],.int .i64 W_] w fun e w'=>e=.returned (.tuple #[.int .i64 (Qs.look q c r W_ x),.nilIface])∧Mod noF w w':=by
 have htl:=(List.getElem?_eq_some_iff.1 hq).1;have hq0:=(((((Mod.refl noF w).alloc (refBox c r)).alloc (intBox W_)).alloc (intBox 0)).alloc (errBox .nilIface));have h2:=h.keep0 hq0;have hbx:=heap4 w (refBox c r) (intBox W_) (intBox 0) (errBox .nilIface);have E2:=E.keep hq0
 obtain ⟨wz,hwz⟩:∃wz,wz=(((w.alloc (refBox c r)).alloc (intBox W_)).alloc (intBox 0)).alloc (errBox .nilIface):=⟨_,rfl⟩;rw[←hwz]at h2 hbx E2 hq0;obtain ⟨bx0,bx1,bx2,bx3⟩:=hbx
 have hS:∀W,Mod noF wz.drew W→(Mod noF wz.drew W∧W.cell? ⟨B.bM,0,none⟩=some (.pointer (some ⟨B.bA,0,none⟩))∧W.cell? ⟨w.heap.size,0,none⟩=some (.int .i64 c)∧W.cell? ⟨w.heap.size,1,none⟩=some (.int .i64 r)∧W.cell? ⟨w.heap.size+1,0,none⟩=some (.int .i64 W_)):=by
  intro W hW;have hz:=(Mod.refl noF wz).drew.trans0 hW;have hx:=hz.heap bx0 (fun e=>e);exact ⟨hW,(h2.keep0 hz).ptr,(cell_of_heap hx 0).trans rfl,(cell_of_heap hx 1).trans rfl,(cell_of_heap (hz.heap bx1 (fun e=>e)) 0).trans rfl⟩
 have hcall:∀W,Mod noF wz.drew W→Calls Tryz.prog 104 #[.pointer (some ⟨B.bA,0,none⟩),.agg #[.int .i64 c,.int .i64 r],.int .i64 W_] W fun e w'=>e=.returned (.tuple #[.int .i64 (loadE l c r W_).1,errOf' a (loadE l c r W_).2])∧Mod noF wz.drew W∧Mod noF wz.drew w':=by
  intro W hW;have hz:=(Mod.refl noF wz).drew.trans0 hW;exact (aload_any (h2.keep0 hz).arena (E2.keep hz) hn ht c r W_).mono fun e w' h=>⟨h.1,hW,hW.trans0 h.2⟩
 rw[he]at hcall;simp only[errOf',errV,if_true]at hcall;obtain ⟨-,z0,z1,z2,z3⟩:=hS wz.drew (Mod.refl _ _);have zb:=h2.lt (x:=B.bM) (.inl rfl);have zx:=lt_of_block bx0;have zx1:=lt_of_block bx1;have HS:=Lib.hid hS;have Hcall:=Lib.hid hcall;have H:=Lib.hid h2;have HE:=Lib.hid E2;have Hq:=Lib.hid hq
 have Hq0:=Lib.hid hq0;have Bx0:=Lib.hid bx0;have Bx1:=Lib.hid bx1;have Bx2:=Lib.hid bx2;have Bx3:=Lib.hid bx3;clear hcall h h2 hq0 E E2 ht hq he bx0 bx1 bx2 bx3 hS;refine (callsIn_wide (n:=6)).1 ?_;refine callsIn_of_wp_marks Tryz.func88 rfl trivial ?_ rfl
 refine wpIn_wide.2 ?_;simp only[Tryz.ntmps88,List.size_toArray,List.length_cons,List.length_nil,Nat.reduceAdd,Nat.reduceSub,Array.replicate_succ,Array.replicate_zero,List.push_toArray,List.append_toArray,List.nil_append,List.cons_append]
 go_wp2_with fail
 rw[←hwz];refine (pthread_ok H.out t htl).mono ?_;rintro e w' ⟨rfl,rfl⟩;clear hwz;go_wp2
 go_region_held3 (fun W=>Mod noF wz.drew W∧W.cell? ⟨B.bM,0,none⟩=some (.pointer (some ⟨B.bA,0,none⟩))∧W.cell? ⟨w.heap.size,0,none⟩=some (.int .i64 c)∧W.cell? ⟨w.heap.size,1,none⟩=some (.int .i64 r)∧W.cell? ⟨w.heap.size+1,0,none⟩=some (.int .i64 W_)) ((refine HS.out _ ?_;first|assumption|exact Mod.refl _ _)) (first|(go_at_call 104;go_split_ands;refine (Hcall.out _ ?_).mono ?_;assumption;rintro e w1 ⟨rfl,hm0,hm1⟩))
 have hm1:=(Mod.refl noF wz).drew.trans0 hm1;have hx2:=hm1.heap Bx2.out (fun e=>e);have hx3:=hm1.heap Bx3.out (fun e=>e);have y2:w1.cell? ⟨w.heap.size+1+1,0,none⟩=some (.int .i64 0):=(cell_of_heap hx2 0).trans rfl
 have y3:w1.cell? ⟨w.heap.size+1+1+1,0,none⟩=some .nilIface:=(cell_of_heap hx3 0).trans rfl;have f2:=free_of_heap hx2 0;have f3:=free_of_heap hx3 0;have yb2:=lt_of_block hx2;have yb3:=lt_of_block hx3;have Hm1:=Lib.hid hm1;clear hm1;have h1:=H.out.keep0 Hm1.out;have p1:=h1.slice
 have pb:=h1.lt (x:=B.bM) (.inl rfl);have pw:=h1.lt (x:=B.bW) (.inr (.inr (.inr (.inl rfl))));obtain ⟨v,ra,rc,hvv,rfl,k1,k2,p2,hrow⟩:=h1.rowAt Hq.out
 have pt:(t:Int)<(ws.length:Int):=by omega
 have H1:=Lib.hid h1;have Hrow:=Lib.hid hrow;clear h1 hvv hrow
 go_wp2_with fail
 refine ((callsIn_wide (n:=5)).1 (back_in Fence.wide 5 trivial rfl ra q.length rc w1)).mono ?_;rintro e w2 ⟨rfl,rfl⟩
 go_wp2_with fail
 have hL:LBox w1 w.heap.size c r W_ (.int .i64 0) .nilIface:=(show LBox wz w.heap.size c r W_ (.int .i64 0) .nilIface from ⟨Bx0.out,Bx1.out,Bx2.out,Bx3.out⟩).mod Hm1.out;have hwL:Mod noF w1 (w1.alloc (.cells #[.slice ra q.length rc] 180)):=(Mod.refl noF w1).alloc _
 have hcb:=heap_alloc_new w1 (.cells #[.slice ra q.length rc] 180)
 have hwsz:w.heap.size≤w1.heap.size:=by omega
 have hM0:=Hq0.out.trans0 Hm1.out;obtain ⟨wL,hLw⟩:∃wL,wL=w1.alloc (.cells #[.slice ra q.length rc] 180):=⟨_,rfl⟩
 have hlsz:wL.heap.size=w1.heap.size+1:=by rw[hLw];simp
 rw[←hLw]at hwL hcb ⊢;have hLL:=hL.mod hwL;have hRL:waitRow wL (.slice ra q.length rc) q:=Hrow.out.keep hwL (fun _ _ e=>e);have hBL:Below w.heap.size w wL:=(hM0.trans0 hwL).toBelow;have hcL:wL.cell? ⟨w1.heap.size,0,none⟩=some (.slice ra q.length rc):=(cell_of_heap hcb 0).trans rfl;clear hLw
 refine (wpIn_wide (n:=6)).1 ?_
 refine wpIn_rangeFunc_ownH (F:=Fence.wide) rfl (by decide) (gf:=132) (lb:=#[.pointer (some ⟨w1.heap.size,0,none⟩)]) rfl trivial (enters_of Tryz.func132 (by kernel_rfl) rfl)
  (back_stops Fence.wide 5 trivial rfl (by decide) w1.heap.size (.slice ra q.length rc) q hql wL (by omega) hcL hRL) belowK_t (belowK_b (Nat.le_refl _)) (Below.refl _ _) (fun _=>rfl)
  (fun pre W=>((∀y∈pre,¬hit c r W_ y.2)∧LBox W w.heap.size c r W_ (.int .i64 0) .nilIface)∧Below w.heap.size wL W)
  (fun k pre W=>(k=.ret∧∃pre' y,pre=pre'++[y]∧(∀z∈pre',¬hit c r W_ z.2)∧hit c r W_ y.2∧LBox W w.heap.size c r W_ (.int .i64 y.2.v) .nilIface)∧Below w.heap.size wL W)
  (OwnFrom.and (fun s A B row hs hg hr=>⟨hs.1,hs.2.kept hg hr⟩) (ownFrom_below (by omega) (by omega)))
  (fun k=>OwnFrom.and (fun s A B row hs hg hr=>by obtain ⟨h1,p',y,h2,h3,h4,h5⟩:=hs;exact ⟨h1,p',y,h2,h3,h4,h5.kept hg hr⟩) (ownFrom_below (by omega) (by omega)))
  ⟨⟨by simp,hLL⟩,Below.refl _ _⟩
  (fun y a' W=>∃Bx,wL.heap.size≤Bx∧W.heap[Bx]?=some (.cells #[.int .i64 y.2.c,.int .i64 y.2.g,.int .i64 y.2.w,.int .i64 y.2.v] 182)∧a' = {tmps:=loadTmps B.bM B.bA B.bW w1.heap.size w.heap.size rc ra t q.length ws.length c r W_ x Bx y,defers:=[]})
  (fun y a' s A B row hs hg hr=>by obtain ⟨Bx,h1,h2,h3⟩:=hs;exact ⟨Bx,h1,block_kept h2 rfl hg hr,h3⟩) ?assign ?body ?done ?stop
 case assign=>
  rintro l' pre ⟨yi,yc,yg,yw,yv⟩ W K ⟨⟨hne,hb⟩,hB⟩ hK;have hsz:=hB.size;simp only[backE]
  gi_wp2
  exact hK _ _ ((KeepsOthers.alloc _ _).from _) ((Below.refl _ W).alloc hsz _) ⟨⟨hne,hb.mod ((Mod.refl noF W).alloc _)⟩,hB.alloc (by omega) _⟩ ⟨W.heap.size,hsz,heap_alloc_new W _,rfl⟩
 case body=>
  rintro l' pre ⟨yi,yc,yg,yw,yv⟩ a' W hl' ⟨rr,hrr⟩ ⟨⟨hne,hb⟩,hB⟩ ⟨Bx,hBx,bx,rfl⟩ hlt;have c0:W.cell? ⟨w.heap.size,0,none⟩=some (.int .i64 c):=(cell_of_heap hb.b0 0).trans rfl;have c1:W.cell? ⟨w.heap.size,1,none⟩=some (.int .i64 r):=(cell_of_heap hb.b0 1).trans rfl
  have c2:W.cell? ⟨w.heap.size+1,0,none⟩=some (.int .i64 W_):=(cell_of_heap hb.b1 0).trans rfl;have c3:W.cell? ⟨w.heap.size+1+1,0,none⟩=some (.int .i64 0):=(cell_of_heap hb.b2 0).trans rfl;have c4:W.cell? ⟨w.heap.size+1+1+1,0,none⟩=some .nilIface:=(cell_of_heap hb.b3 0).trans rfl
  have e3:=free_of_heap hb.b2 0;have e4:=free_of_heap hb.b3 0;have d0:W.cell? ⟨Bx,0,none⟩=some (.int .i64 yc):=(cell_of_heap bx 0).trans rfl;have d1:W.cell? ⟨Bx,1,none⟩=some (.int .i64 yg):=(cell_of_heap bx 1).trans rfl;have d2:W.cell? ⟨Bx,2,none⟩=some (.int .i64 yw):=(cell_of_heap bx 2).trans rfl
  have d3:W.cell? ⟨Bx,3,none⟩=some (.int .i64 yv):=(cell_of_heap bx 3).trans rfl;have g0:=lt_of_block hb.b0;have g1:=lt_of_block hb.b1;have g2:=lt_of_block hb.b2;have g3:=lt_of_block hb.b3;have g4:=lt_of_block bx;unfold loadTmps
  gi_wp2
  ·rename_i h1 h2 h3
   exact ⟨((KeepsOthers.setCell _ _ _).trans (KeepsOthers.setCell _ _ _)).from _,⟨rfl,pre,yi,⟨c,r,yw,yv⟩,rfl,fun i y hy=>hne (i,y) hy,⟨rfl,rfl,eq_of_beq h3⟩,hb.set _ _⟩,(hB.setCell (p:=⟨w.heap.size+1+1,0,none⟩) (by simp only;omega) _).setCell (p:=⟨w.heap.size+1+1+1,0,none⟩) (by simp only;omega) _⟩
  ·rename_i h1 h2 h3
   exact ⟨KeepsFrom.refl _ _,Below.refl _ _,⟨fun i y hy=>(List.mem_append.1 hy).elim (fun h=>hne (i,y) h) (fun h hh=>by simp at h;obtain ⟨rfl,rfl⟩:=h;rw[beq_eq_false_iff_ne]at h3;exact h3 hh.2.2),hb⟩,hB⟩
  ·rename_i h1 h2
   exact ⟨KeepsFrom.refl _ _,Below.refl _ _,⟨fun i y hy=>(List.mem_append.1 hy).elim (fun h=>hne (i,y) h) (fun h hh=>by simp at h;obtain ⟨rfl,rfl⟩:=h;exact h2 hh.2.1),hb⟩,hB⟩
  ·rename_i h1
   exact ⟨KeepsFrom.refl _ _,Below.refl _ _,⟨fun i y hy=>(List.mem_append.1 hy).elim (fun h=>hne (i,y) h) (fun h hh=>by simp at h;obtain ⟨rfl,rfl⟩:=h;exact h1 hh.1),hb⟩,hB⟩
 case done=>
  rintro D ys W hD rfl ⟨⟨hne,hb⟩,hB⟩ hK;have c3:W.cell? ⟨w.heap.size+1+1,0,none⟩=some (.int .i64 0):=(cell_of_heap hb.b2 0).trans rfl;have c4:W.cell? ⟨w.heap.size+1+1+1,0,none⟩=some .nilIface:=(cell_of_heap hb.b3 0).trans rfl;have e3:=free_of_heap hb.b2 0;have e4:=free_of_heap hb.b3 0
  have g2:=lt_of_block hb.b2;have g3:=lt_of_block hb.b3;go_wp2;have hBw:=((hBL.trans hB).setCell (p:=⟨w.heap.size+1+1,0,none⟩) (by simp only;omega) (.int .i64 x)).setCell (p:=⟨w.heap.size+1+1+1,0,none⟩) (by simp only;omega) .nilIface;have hLb:=hb.set (.int .i64 x) .nilIface
  have hKD:=((KeepsOthers.setCell W ⟨w.heap.size+1+1,0,none⟩ (.int .i64 x)).trans (KeepsOthers.setCell _ ⟨w.heap.size+1+1+1,0,none⟩ .nilIface)).same D _ hK rfl;have hBD:=hBw.trans (belowK_b (w:=wL) (by omega) _ D _ (.deferred none) hD hKD rfl rfl)
  have hpo:∀k:Nat,k≠D→(World.putObj ((W.setCell ⟨w.heap.size+1+1,0,none⟩ (.int .i64 x)).setCell ⟨w.heap.size+1+1+1,0,none⟩ .nilIface) D (.deferred none)).heap[k]?=((W.setCell ⟨w.heap.size+1+1,0,none⟩ (.int .i64 x)).setCell ⟨w.heap.size+1+1+1,0,none⟩ .nilIface).heap[k]?:=fun k h=>World.putObj_heap_other h
  have q2:(World.putObj ((W.setCell ⟨w.heap.size+1+1,0,none⟩ (.int .i64 x)).setCell ⟨w.heap.size+1+1+1,0,none⟩ .nilIface) D (.deferred none)).cell? ⟨w.heap.size+1+1,0,none⟩=some (.int .i64 x):=(cell_of_heap ((hpo _ (by omega)).trans hLb.b2) 0).trans rfl
  have q3:(World.putObj ((W.setCell ⟨w.heap.size+1+1,0,none⟩ (.int .i64 x)).setCell ⟨w.heap.size+1+1+1,0,none⟩ .nilIface) D (.deferred none)).cell? ⟨w.heap.size+1+1+1,0,none⟩=some .nilIface:=(cell_of_heap ((hpo _ (by omega)).trans hLb.b3) 0).trans rfl
  refine ⟨by simp,.inl ⟨_,_,rfl,run_takeDeferred hKD,?_⟩⟩;refine leavesM_nil (v:=.tuple #[(.int .i64 x),.nilIface]) (by simp[results,Tryz.results88,go_sem,q2,q3]) ⟨by rw[look_all x hne],Mod.below hBD⟩
 case stop=>
  rintro D k pre W hD hSp ⟨⟨rfl,pre',y,rfl,hne,hy,hb⟩,hB⟩ hK;obtain ⟨k,hSk,hSe⟩:=hSp;have g2:=lt_of_block hb.b2;have g3:=lt_of_block hb.b3;refine wpIn_wide.2 ?_;go_wp2;have hBw:=hBL.trans hB;have hLb:=hb;have hKD:=hK
  have hBD:=hBw.trans (belowK_b (w:=wL) (by omega) _ D _ (.deferred none) hD hKD rfl rfl);have hpo:∀k:Nat,k≠D→(World.putObj W D (.deferred none)).heap[k]?=W.heap[k]?:=fun k h=>World.putObj_heap_other h
  have q2:(World.putObj W D (.deferred none)).cell? ⟨w.heap.size+1+1,0,none⟩=some (.int .i64 y.2.v):=(cell_of_heap ((hpo _ (by omega)).trans hLb.b2) 0).trans rfl
  have q3:(World.putObj W D (.deferred none)).cell? ⟨w.heap.size+1+1+1,0,none⟩=some .nilIface:=(cell_of_heap ((hpo _ (by omega)).trans hLb.b3) 0).trans rfl;refine ⟨by simp,.inl ⟨_,_,rfl,run_takeDeferred hKD,?_⟩⟩
  refine leavesM_nil (v:=.tuple #[(.int .i64 y.2.v),.nilIface]) (by simp[results,Tryz.results88,go_sem,q2,q3]) ⟨by rw[look_found x hSk hSe hy hne],Mod.below hBD⟩
end
section
open Go.RowKit Qs Qh
variable {w:World}{B:PB}{l:List Cell}{ws:List (List Wt)}{vs:List Value}{a:Nat→Addr}
theorem intsRow.keep{w w':World}{v:Value}{L:List Int}(h:intsRow w v L)(hM:Mod noF w w'):intsRow w' v L:=by
 obtain ⟨a,c,e,hx⟩:=h;refine ⟨a,c,e,fun i n hi=>?_⟩;obtain ⟨b,off,e',hb,hc⟩:=hx i n hi;exact ⟨b,off,e',Nat.lt_of_lt_of_le hb hM.size,hM.cell hc (fun e=>e)⟩
theorem pwhole_ok{b0:World}(h:PMV w B l ws vs)(E:PLow b0 w a B vs)(C:CellsOk l)(hn6:ws.length≤6){t:Nat}{q:List Wt}(hq:ws[t]?=some q)(hql:q.length≤8)(c r W_:Int){v:Value}{L:List Int}(R:intsRow w v L)(hL:L.length≤8)(hw:okW q)(x:Int)(he:loadE l c r W_=(x,0))(hall:L.all isWord=true) :
  Calls Tryz.prog 122 #[.pointer (some ⟨B.bM,0,none⟩),.int .i64 t,.agg #[.int .i64 c,.int .i64 r],.int .i64 W_,v] w fun e w'=>e=.returned (errOf' a (badN l q))∧∃vs',PUp w B vs w' (drainAll l q).1 (ws.set t []) vs':=by
 have Hall:=Lib.hid hall;have Hw:=Lib.hid hw;clear hall hw;have htl:=(List.getElem?_eq_some_iff.1 hq).1;have hq0:=(Mod.refl noF w).alloc (refBox c r);have h2:=h.keep0 hq0;have hu:=PUp.quiet h hq0;have hbx:=heap_alloc_new w (refBox c r);have E2:=E.keep hq0;have R2:=R.keep hq0
 obtain ⟨wz,hwz⟩:∃wz,wz=w.alloc (refBox c r):=⟨_,rfl⟩;rw[←hwz]at h2 hu hbx E2 R2
 have hS:∀W,Mod noF wz.drew W→(Mod noF wz.drew W∧W.cell? ⟨B.bM,0,none⟩=some (.pointer (some ⟨B.bA,0,none⟩))∧W.cell? ⟨w.heap.size,0,none⟩=some (.int .i64 c)∧W.cell? ⟨w.heap.size,1,none⟩=some (.int .i64 r)):=by
  intro W hW;have hz:=(Mod.refl noF wz).drew.trans0 hW;have hx:=hz.heap hbx (fun e=>e);exact ⟨hW,(h2.keep0 hz).ptr,(cell_of_heap hx 0).trans rfl,(cell_of_heap hx 1).trans rfl⟩
 have hcall:∀W,Mod noF wz.drew W→Calls Tryz.prog 104 #[.pointer (some ⟨B.bA,0,none⟩),.agg #[.int .i64 c,.int .i64 r],.int .i64 W_] W fun e w'=>e=.returned (.tuple #[.int .i64 (loadE l c r W_).1,errOf' a (loadE l c r W_).2])∧Mod noF wz.drew W∧Mod noF wz.drew w':=by
  intro W hW;have hz:=(Mod.refl noF wz).drew.trans0 hW;exact (aload_any (h2.keep0 hz).arena (E2.E.keep hz) C.len C.times c r W_).mono fun e w' h=>⟨h.1,hW,hW.trans0 h.2⟩
 rw[he]at hcall;simp only[errOf',errV,if_true]at hcall;obtain ⟨-,z0,z1,z2⟩:=hS wz.drew (Mod.refl _ _);have zb:=h2.lt (x:=B.bM) (.inl rfl);have zx:=lt_of_block hbx;have HS:=Lib.hid hS;have Hcall:=Lib.hid hcall;have H:=Lib.hid h2;have Hu:=Lib.hid hu;have HE:=Lib.hid E2;have HR:=Lib.hid R2
 have Hq:=Lib.hid hq;have HC:=Lib.hid C;obtain ⟨la,lc,rfl,_⟩:=R;clear hcall h h2 hu hq0 E E2 C R2 hq he hbx hS
 go_enter Tryz.func122,Tryz.ntmps122
 go_wp2_with fail
 rw[←hwz];refine (pthread_ok H.out t htl).mono ?_;rintro e w' ⟨rfl,rfl⟩;clear hwz;go_wp2
 go_region_held3 (fun W=>Mod noF wz.drew W∧W.cell? ⟨B.bM,0,none⟩=some (.pointer (some ⟨B.bA,0,none⟩))∧W.cell? ⟨w.heap.size,0,none⟩=some (.int .i64 c)∧W.cell? ⟨w.heap.size,1,none⟩=some (.int .i64 r)) ((refine HS.out _ ?_;first|assumption|exact Mod.refl _ _)) (first|(go_at_call 104;go_split_ands;refine (Hcall.out _ ?_).mono ?_;assumption;rintro e w1 ⟨rfl,hm0,hm1⟩))
 have hm1:=(Mod.refl noF wz).drew.trans0 hm1;have Hu1:=Lib.hid (Hu.out.then0 hm1);have H1:=Lib.hid (H.out.keep0 hm1);have HE1:=Lib.hid (HE.out.keep hm1);have HR1:=Lib.hid (HR.out.keep hm1);clear hm1 Hcall
 go_wp2_with fail
 refine (containsBad w1 _ L HR1.out hL).mono ?_;rintro e w' ⟨rfl,rfl⟩;rw[Hall.out]
 go_wp2_with fail
 refine (pfence_any H1.out HE1.out HC.out Hq.out hn6 hql Hw.out).mono ?_;rintro e w2 ⟨rfl,vs2,hu2⟩;have Hu2:=Lib.hid (Hu1.out.trans hu2);clear hu2;go_wp2;go_ret;exact ⟨rfl,_,Hu2.out⟩
end
section
open Go.RowKit Qs Qh
variable {w w1 w2 w':World}{X:XB}{vs vs':List Value}{mv mv':Value}{m m':M}{N:Int}
theorem PMach.setPcQ(h:PMach w X vs mv m){t:Nat}{k:Thr}(ht:m.T[t]?=some k)(p:Nat):XUp w X vs mv m (w.setCell ⟨X.bL,t*11+10,none⟩ (.int .i64 (p:Int))) (m.setPc t p) vs mv:=by
 have:=h.setThr (j:=10) (k':={k with pc:=p}) (v:=.int .i64 (p:Int)) ht (by decide) rfl rfl;unfold M.setPc;rw[modify_get _ ht];exact this
theorem regs_set{l:List Int}{a:Nat}(ha:a<l.length)(v:Int)(i:Nat):(l.set a v).getD i 0=if i=a then v else l.getD i 0:=by
 rw[List.getD_eq_getElem?_getD,List.getD_eq_getElem?_getD,List.getElem?_set]
 by_cases e:a=i
 ·subst e;rw[if_pos rfl,if_pos ha,if_pos rfl];rfl
 ·rw[if_neg e,if_neg fun g=>e g.symm]
theorem PMach.setRegQ(h:PMach w X vs mv m){t:Nat}{k:Thr}(ht:m.T[t]?=some k)(h8:k.regs.length=8){a:Nat}(ha:a<8)(v:Int):XUp w X vs mv m (w.setCell ⟨X.bL,t*11+2+a,none⟩ (.int .i64 v)) (m.setReg t (a:Int) v) vs mv:=by
 have:=h.setThr (j:=2+a) (k':={k with regs:=k.regs.set a v}) (v:=.int .i64 v) ht (by omega) (by
  have hr:=fun i=>regs_set (l:=k.regs) (a:=a) (by omega) v i
  rcases (by omega:a=0∨a=1∨a=2∨a=3∨a=4∨a=5∨a=6∨a=7)with rfl|rfl|rfl|rfl|rfl|rfl|rfl|rfl <;> (unfold tVals;simp only[hr];rfl)) rfl
 unfold M.setReg;rw[modify_get _ ht,show ((a:Int).toNat)=a from by simp,show t*11+2+a=t*11+(2+a) by omega];exact this
theorem PMach.reg_at(h:PMach w X vs mv m){t:Nat}{k:Thr}(ht:m.T[t]?=some k){a:Nat}(ha:a<8):w.cell? ⟨X.bL,t*11+2+a,none⟩=some (.int .i64 (k.regs.getD a 0)):=by
 have h1:=(h.thr_at ht).1 (2+a) (.int .i64 (k.regs.getD a 0)) (by
  rcases (by omega:a=0∨a=1∨a=2∨a=3∨a=4∨a=5∨a=6∨a=7)with rfl|rfl|rfl|rfl|rfl|rfl|rfl|rfl <;> rfl)
 rw[show t*11+2+a=t*11+(2+a) by omega];exact h1
theorem PX.regW(h:PX w X vs mv m N){t:Nat}{k:Thr}(ht:m.T[t]?=some k){a:Nat}(ha:a<8):isWord (k.regs.getD a 0)=true:=by
 obtain ⟨h1,h2⟩:=h.ot.regs t k ht
 have hl:a<k.regs.length:=by omega
 rw[List.getD_eq_getElem?_getD,List.getElem?_eq_getElem hl];exact h2 _ (List.getElem_mem hl)
theorem preg_any(H:PX w X vs mv m N){t:Nat}{k:Thr}(ht:m.T[t]?=some k){r:Nat}(hr:r<8) :
  Calls Tryz.prog 19 #[.pointer (some ⟨X.bX,0,none⟩),.int .i64 t,.int .i64 r] w fun e w'=>e=.returned (.tuple #[.int .i64 (k.regs.getD r 0),.nilIface])∧Mod noF w w':=by
 obtain ⟨t0,t1,t2,t3,t4,t5⟩:=H.p.top_at;have hlt:=(List.getElem?_eq_some_iff.1 ht).1;have ht6:=H.t6;have hc:=H.p.reg_at ht hr;generalize k.regs.getD r 0=v at *
 have d1:decide ((t:Int)<0)=false:=by simp
 have d2:decide ((m.T.length:Int)≤(t:Int))=false:=by simp;omega
 have d3:decide ((r:Int)<0)=false:=by simp
 have d4:decide ((8:Int)≤(r:Int))=false:=by simp;omega
 have i1:(t:Int)<(m.T.length:Int):=by omega
 have i2:(r:Int)<8:=by omega
 clear H ht t4
 go_enter Tryz.func19,Tryz.ntmps19
 go_wp2;go_ret2;exact ⟨rfl,Mod.refl _ _⟩
end
section
open Go.RowKit Qs Qh
variable {w:World}{L:Lay}{m:M}{N:Int}
theorem fence_eq(m:M)(t:Nat){l:List Wt}(hl:m.waits[t]?=some l):m.fence t = {m with cells:=(drainAll m.cells l).1,waits:=m.waits.set t [],faults:=m.faults+((drainAll m.cells l).2:Nat)}:=by
 unfold M.fence
 have:m.waitsOf t=l:=by simp[M.waitsOf,List.getD,hl]
 rw[this]
theorem machFence_ext(X:Mach ty w L m N)(hN:N≤100000000000)(t:Nat)(ht:t<m.T.length) :
  Calls Tryz.prog 54 #[.pointer (some ⟨L.blk 0 0,0,none⟩),.int .i64 t] w fun e w'=>e=.returned (.tuple #[])∧∃L',MUp ty w L m w' L' (m.fence t) (N+8)∧Ext L L':=by
 obtain ⟨l,hl⟩:∃l,m.waits[t]?=some l:=⟨_,List.getElem?_eq_getElem (by rw[X.ot.len];exact ht)⟩;obtain ⟨t0,t1,t2,t3,t4,t5⟩:=X.top;have t43:=t4 3;have hf:=X.ot.f0;have hl8:=X.om.wlen t l hl;have hcount:=drainAll_le l m.cells;generalize hnf:(drainAll m.cells l).2=nf at *
 have hnf8:nf≤8:=by omega
 have hcall:=memFence_any (w:=w.drew) (X.rep.frame0 (Mod.refl _ _).drew) rfl rfl rfl rfl rfl X.om X.ol (by omega) t hl;rw[hnf]at hcall;have Hcall:=Lib.hid hcall;have HX:=Lib.hid X;have Hl:=Lib.hid hl;have Hnf:=Lib.hid hnf;clear X hl hcall hnf hcount t4
 go_enter Tryz.func54,Tryz.ntmps54
 have hval:=HX.out.om.wval t l Hl.out;have om5:OkM N {m with cells:=(drainAll m.cells l).1,waits:=m.waits.set t []}:=(drainAll_ok l HX.out.om (fun x hx=>(hval x hx).1)).setWaits (by simp) (fun x hx=>by cases hx);have Hom5:=Lib.hid om5;clear om5 hval
 go_region_with (go_at_call 100;refine Hcall.out.mono ?_;rintro e w5 ⟨rfl,L5,hU5⟩;have U5:=(HX.out.frame0 (Mod.refl _ _).drew).up (Int.le_refl N) hU5 Hom5.out rfl rfl rfl (by simp);obtain ⟨x0,x1,x2,x3,x4,x5⟩:=U5.mach.top;have x43:=x4 3;have E0:=U5.top.1;have E1:=U5.top.2;rw[E0]at x0 x3 x43 x5;clear x1 x2 x4;have HE0:=Lib.hid E0;have HU5:=Lib.hid U5;have HE:=Lib.hid hU5.ext;clear E0 E1 hU5 U5)
 all_goals
  refine bodyPost_end (results_none rfl _ _ _) rfl ⟨rfl,L5,?_,HE.out⟩;rw[fence_eq m t Hl.out,Hnf.out];have V:=(MUp.quiet HX.out (Mod.refl _ _).drew).trans (HU5.out.trans (HU5.out.mach.setFaults (N':=N+8) (m.faults+(nf:Int)) (by omega) (by omega) (by omega)));rw[HE0.out]at V
  rw[show IntKind.i64.wrap (m.faults+(nf:Int))=m.faults+(nf:Int)from IntWalk.i64_in _ (by omega)];exact V
theorem machFence_any(X:Mach ty w L m N)(hN:N≤100000000000)(t:Nat)(ht:t<m.T.length) :
  Calls Tryz.prog 54 #[.pointer (some ⟨L.blk 0 0,0,none⟩),.int .i64 t] w fun e w'=>e=.returned (.tuple #[])∧∃L',MUp ty w L m w' L' (m.fence t) (N+8):=
 (machFence_ext X hN t ht).mono fun _ _ ⟨h,L',h1,_⟩=>⟨h,L',h1⟩
end
section
open Go.RowKit Qs Qh
variable {w:World}{L:Lay}{m:M}{N:Int}
theorem step_fence(X:Mach ty w L m N)(hN:N≤10000000000)(t:Nat)(ht:t<m.T.length){h:Thr}(hh:m.T[t]?=some h){a b c:Nat}{A B C:Int}{to:List UInt8}(hx:h.code[h.pc]?=some ⟨12,A,B,C,to⟩) :
  Calls Tryz.prog 15 #[.pointer (some ⟨L.blk 0 0,0,none⟩),.int .i64 t] w fun e w'=>e=.returned (.int .i64 0)∧∃L',MUp ty w L m w' L' ((m.setPc t (h.pc+1)).fence t) (N+8):=by
 have hthr:m.thr t=h:=by simp[M.thr,List.getD,hh]
 have hdone:m.done t=false:=by unfold M.done;rw[hthr,hx];rfl
 obtain ⟨t0,t1,t2,t3,t4,t5⟩:=X.top
 have ht6:m.T.length≤6:=by have:=X.om.waits;have:=X.ot.len;omega
 have hsp:=X.olt.sp4;have hsp8:=X.olt.sp8 t ht
 have d0:decide ((t:Int)<0)=false:=by simp
 have d1:decide ((m.T.length:Int)≤(t:Int))=false:=by simp;omega
 have HX:=Lib.hid X;have Hh:=Lib.hid hh;have Hx:=Lib.hid hx;have Hthr:=Lib.hid hthr;have Hdone:=Lib.hid hdone;clear X hh hx hthr hdone t4
 go_enter Tryz.func15,Tryz.ntmps15
 go_wp2_with fail
 refine (done_any HX.out t ht).mono ?_;rintro e w1 ⟨rfl,hm⟩;rw[Hdone.out];have X1:=HX.out.frame0 hm;have HX1:=Lib.hid X1;have Hm:=Lib.hid hm;clear t0 t1 t2 t3 t5;obtain ⟨t0,t1,t2,t3,t4,t5⟩:=X1.top;obtain ⟨r0,r1,r2,r3,r4⟩:=X1.thr_at Hh.out;obtain ⟨cb,off,cc,e,hcb,hcell⟩:=code_cell X1 Hh.out Hx.out
 rw[e]at r0;obtain ⟨hpc,hco⟩:=X1.ot.code t h Hh.out;have hlen:=hco.len;have hlt:h.pc<h.code.length:=(List.getElem?_eq_some_iff.1 Hx.out).1;have c0:=hcell 0 _ rfl;have c1:=hcell 1 _ rfl;have c2:=hcell 2 _ rfl;have c3:=hcell 3 _ rfl;have c4:=hcell 4 _ rfl
 simp only[Nat.add_zero,opStr,iv,sv]at c0 c1 c2 c3 c4;generalize hd4:(⟨to.toArray⟩:ByteArray)=dto at *;have Hd4:=Lib.hid hd4;have f4:=r3 (t*3+2);have n48:L.blk 4 0≠L.blk 8 t:=X1.ne (by rw[obj4 ty m X1.olt.n4];rfl) (by rw[obj8 ty (X1.olt.n8 t ht) Hh.out];rfl) (by omega)
 have n04:L.blk 0 0≠L.blk 4 0:=X1.ne rfl (by rw[obj4 ty m X1.olt.n4];rfl) (by omega);have n08:L.blk 0 0≠L.blk 8 t:=X1.ne rfl (by rw[obj8 ty (X1.olt.n8 t ht) Hh.out];rfl) (by omega);have He:=Lib.hid e;clear hm X1 e hpc hco hcell t4 r3 hd4;go_wp2
 go_region
 go_wp2_with fail
 have U0:=MUp.then0 ((MUp.quiet HX.out Hm.out).trans (HX1.out.pc Hh.out hlt)) (w3:=((w1.setCell ⟨L.blk 4 0,t*3+2,none⟩ (.int .i64 ((h.pc:Int)+1))).alloc (.cells #[.string ⟨#[102,101,110,99,101]⟩,.int .i64 A,.int .i64 B,.int .i64 C,.string dto] 73)).drew) (by repeat (first|exact Mod.refl _ _|refine Mod.drew ?_|refine Mod.drewN ?_ _|refine Mod.alloc ?_ _))
 have HU0:=Lib.hid U0;clear U0;refine (machFence_any HU0.out.mach (by omega) t (by simpa[M.setPc]using ht)).mono ?_;rintro e w5 ⟨rfl,L5,hU5⟩;go_wp2;go_ret;exact ⟨rfl,L5,HU0.out.trans hU5⟩
end
section
open Go.RowKit Qs Qh
variable {w:World}{L:Lay}{m:M}{N:Int}
theorem step_store_none(X:Mach ty w L m N)(hN:N≤10000000000)(t:Nat)(ht:t<m.T.length){h:Thr}(hh:m.T[t]?=some h){a b c:Nat}{A B C:Int}{to:List UInt8}(hx:h.code[h.pc]?=some ⟨7,a,b,C,to⟩)(ha:a<8)(hb:b<8)(hn:m.names (h.regs.getD a 0)=none) :
  Calls Tryz.prog 15 #[.pointer (some ⟨L.blk 0 0,0,none⟩),.int .i64 t] w fun e w'=>e=.returned (.int .i64 0)∧∃L',MUp ty w L m w' L' ((m.setPc t (h.pc+1)).fault) (N+1):=by
 have hthr:m.thr t=h:=by simp[M.thr,List.getD,hh]
 have hdone:m.done t=false:=by unfold M.done;rw[hthr,hx];rfl
 obtain ⟨t0,t1,t2,t3,t4,t5⟩:=X.top
 have ht6:m.T.length≤6:=by have:=X.om.waits;have:=X.ot.len;omega
 have hsp:=X.olt.sp4;have hsp8:=X.olt.sp8 t ht
 have d0:decide ((t:Int)<0)=false:=by simp
 have d1:decide ((m.T.length:Int)≤(t:Int))=false:=by simp;omega
 have HX:=Lib.hid X;have Hh:=Lib.hid hh;have Hx:=Lib.hid hx;have Hthr:=Lib.hid hthr;have Hdone:=Lib.hid hdone;clear X hh hx hthr hdone t4;have Hn:=Lib.hid hn;clear hn
 go_enter Tryz.func15,Tryz.ntmps15
 go_wp2_with fail
 refine (done_any HX.out t ht).mono ?_;rintro e w1 ⟨rfl,hm⟩;rw[Hdone.out];have X1:=HX.out.frame0 hm;have HX1:=Lib.hid X1;have Hm:=Lib.hid hm;clear t0 t1 t2 t3 t5;obtain ⟨t0,t1,t2,t3,t4,t5⟩:=X1.top;obtain ⟨r0,r1,r2,r3,r4⟩:=X1.thr_at Hh.out;obtain ⟨cb,off,cc,e,hcb,hcell⟩:=code_cell X1 Hh.out Hx.out
 rw[e]at r0;obtain ⟨hpc,hco⟩:=X1.ot.code t h Hh.out;have hlen:=hco.len;have hlt:h.pc<h.code.length:=(List.getElem?_eq_some_iff.1 Hx.out).1;have c0:=hcell 0 _ rfl;have c1:=hcell 1 _ rfl;have c2:=hcell 2 _ rfl;have c3:=hcell 3 _ rfl;have c4:=hcell 4 _ rfl
 simp only[Nat.add_zero,opStr,iv,sv]at c0 c1 c2 c3 c4;generalize hd4:(⟨to.toArray⟩:ByteArray)=dto at *;have Hd4:=Lib.hid hd4;obtain ⟨ga0,ga1,ga2⟩:=X1.reg_at Hh.out ha;have wa:=X1.regWord Hh.out ha;generalize hva:h.regs.getD a 0=va at *;obtain ⟨wa0,wa1⟩:=of_isWord wa;have Hva:=Lib.hid hva
 have Hwa:=Lib.hid wa;clear hva wa;obtain ⟨gb0,gb1,gb2⟩:=X1.reg_at Hh.out hb;have wb:=X1.regWord Hh.out hb;generalize hvb:h.regs.getD b 0=vb at *;obtain ⟨wb0,wb1⟩:=of_isWord wb;have Hvb:=Lib.hid hvb;have Hwb:=Lib.hid wb;clear hvb wb;have f4:=r3 (t*3+2)
 have n48:L.blk 4 0≠L.blk 8 t:=X1.ne (by rw[obj4 ty m X1.olt.n4];rfl) (by rw[obj8 ty (X1.olt.n8 t ht) Hh.out];rfl) (by omega);have n04:L.blk 0 0≠L.blk 4 0:=X1.ne rfl (by rw[obj4 ty m X1.olt.n4];rfl) (by omega)
 have n08:L.blk 0 0≠L.blk 8 t:=X1.ne rfl (by rw[obj8 ty (X1.olt.n8 t ht) Hh.out];rfl) (by omega);have He:=Lib.hid e;clear hm X1 e hpc hco hcell t4 r3 hd4
 have iA:(a:Int)<8:=by omega
 have iB:(b:Int)<8:=by omega
 have iA0:(0:Int)≤(a:Int):=by omega
 have iB0:(0:Int)≤(b:Int):=by omega
 go_wp2
 go_region
 have U0:=MUp.then0 ((MUp.quiet HX.out Hm.out).trans (HX1.out.pc Hh.out hlt)) (w3:=((w1.setCell ⟨L.blk 4 0,t*3+2,none⟩ (.int .i64 ((h.pc:Int)+1))).alloc (.cells #[.string ⟨#[115,116,111,114,101]⟩,.int .i64 a,.int .i64 b,.int .i64 C,.string dto] 73)).drew) (by repeat (first|exact Mod.refl _ _|refine Mod.drew ?_|refine Mod.drewN ?_ _|refine Mod.alloc ?_ _))
 have hbx:∀k,Foot ty allK L (m.setPc t (h.pc+1)) k→k<w1.heap.size:=fun k hk=>by
  have:=(HX1.out.pc Hh.out hlt).mach.rep.lt hk
  simpa using this
 have HU0:=Lib.hid U0;have Hbx:=Lib.hid hbx;clear U0 hbx
 go_wp2_with fail
 refine (names_none HU0.out.mach (by omega) va Hwa.out Hn.out).mono ?_;rintro e w5 ⟨rc,rg,rfl,U5⟩;have X5:=U5.mach;have w5b0:w5.cell? ⟨w1.heap.size,0,none⟩=some (.string ⟨#[115,116,111,114,101]⟩):=U5.mod.cell (by rw[box_cell];rfl) (fun hf=>by have:=Hbx.out _ hf;simp at this)
 have w5b1:w5.cell? ⟨w1.heap.size,1,none⟩=some (.int .i64 a):=U5.mod.cell (by rw[box_cell];rfl) (fun hf=>by have:=Hbx.out _ hf;simp at this);have w5b2:w5.cell? ⟨w1.heap.size,2,none⟩=some (.int .i64 b):=U5.mod.cell (by rw[box_cell];rfl) (fun hf=>by have:=Hbx.out _ hf;simp at this)
 have w5b3:w5.cell? ⟨w1.heap.size,3,none⟩=some (.int .i64 C):=U5.mod.cell (by rw[box_cell];rfl) (fun hf=>by have:=Hbx.out _ hf;simp at this);have w5b4:w5.cell? ⟨w1.heap.size,4,none⟩=some (.string dto):=U5.mod.cell (by rw[box_cell];rfl) (fun hf=>by have:=Hbx.out _ hf;simp at this)
 obtain ⟨pt0,pt1,pt2,pt3,pt4,pt5⟩:=X5.top;obtain ⟨pr0,pr1,pr2,pr3,pr4⟩:=X5.thr_at (setPc_T Hh.out _);obtain ⟨pga0,pga1,pga2⟩:=X5.reg_at (setPc_T Hh.out _) ha;obtain ⟨pgb0,pgb1,pgb2⟩:=X5.reg_at (setPc_T Hh.out _) hb
 have hs5:w1.heap.size<w5.heap.size:=by have:=U5.mod.size;simp at this;omega
 have HX5:=Lib.hid X5;have HU5:=Lib.hid U5;clear X5 U5 pt4 pr3 pt1 pt2 pt3 t0 t1 t2 t3 r0 r1 r2 c0 c1 c2 c3 c4 ga0 ga1 gb0 gb1;go_wp2;go_ret;refine ⟨rfl,L,?_⟩;exact MUp.then0 (HU0.out.trans HU5.out) (by repeat (first|exact Mod.refl _ _|refine Mod.drew ?_|refine Mod.drewN ?_ _|refine Mod.alloc ?_ _))
end
section
open Go.RowKit Qs Qh
variable {w:World}{L:Lay}{m:M}{N:Int}
theorem step_force(X:Mach ty w L m N)(hN:N≤10000000000)(t:Nat)(ht:t<m.T.length){h:Thr}(hh:m.T[t]?=some h){a b c:Nat}{A B C:Int}{to:List UInt8}(hx:h.code[h.pc]?=some ⟨13,A,B,C,to⟩) :
  Calls Tryz.prog 15 #[.pointer (some ⟨L.blk 0 0,0,none⟩),.int .i64 t] w fun e w'=>e=.returned (.int .i64 0)∧∃L',MUp ty w L m w' L' ((m.setPc t (h.pc+1)).force m.T.length) (N+48):=by
 have hthr:m.thr t=h:=by simp[M.thr,List.getD,hh]
 have hdone:m.done t=false:=by unfold M.done;rw[hthr,hx];rfl
 obtain ⟨t0,t1,t2,t3,t4,t5⟩:=X.top
 have ht6:m.T.length≤6:=by have:=X.om.waits;have:=X.ot.len;omega
 have hsp:=X.olt.sp4;have hsp8:=X.olt.sp8 t ht
 have d0:decide ((t:Int)<0)=false:=by simp
 have d1:decide ((m.T.length:Int)≤(t:Int))=false:=by simp;omega
 have HX:=Lib.hid X;have Hh:=Lib.hid hh;have Hx:=Lib.hid hx;have Hthr:=Lib.hid hthr;have Hdone:=Lib.hid hdone;clear X hh hx hthr hdone t4
 go_enter Tryz.func15,Tryz.ntmps15
 go_wp2_with fail
 refine (done_any HX.out t ht).mono ?_;rintro e w1 ⟨rfl,hm⟩;rw[Hdone.out];have X1:=HX.out.frame0 hm;have HX1:=Lib.hid X1;have Hm:=Lib.hid hm;clear t0 t1 t2 t3 t5;obtain ⟨t0,t1,t2,t3,t4,t5⟩:=X1.top;obtain ⟨r0,r1,r2,r3,r4⟩:=X1.thr_at Hh.out;obtain ⟨cb,off,cc,e,hcb,hcell⟩:=code_cell X1 Hh.out Hx.out
 rw[e]at r0;obtain ⟨hpc,hco⟩:=X1.ot.code t h Hh.out;have hlen:=hco.len;have hlt:h.pc<h.code.length:=(List.getElem?_eq_some_iff.1 Hx.out).1;have c0:=hcell 0 _ rfl;have c1:=hcell 1 _ rfl;have c2:=hcell 2 _ rfl;have c3:=hcell 3 _ rfl;have c4:=hcell 4 _ rfl
 simp only[Nat.add_zero,opStr,iv,sv]at c0 c1 c2 c3 c4;generalize hd4:(⟨to.toArray⟩:ByteArray)=dto at *;have Hd4:=Lib.hid hd4;have f4:=r3 (t*3+2);have n48:L.blk 4 0≠L.blk 8 t:=X1.ne (by rw[obj4 ty m X1.olt.n4];rfl) (by rw[obj8 ty (X1.olt.n8 t ht) Hh.out];rfl) (by omega)
 have n04:L.blk 0 0≠L.blk 4 0:=X1.ne rfl (by rw[obj4 ty m X1.olt.n4];rfl) (by omega);have n08:L.blk 0 0≠L.blk 8 t:=X1.ne rfl (by rw[obj8 ty (X1.olt.n8 t ht) Hh.out];rfl) (by omega);have He:=Lib.hid e;clear hm X1 e hpc hco hcell t4 r3 hd4;go_wp2
 go_region
 have U0:=MUp.then0 ((MUp.quiet HX.out Hm.out).trans (HX1.out.pc Hh.out hlt)) (w3:=((w1.setCell ⟨L.blk 4 0,t*3+2,none⟩ (.int .i64 ((h.pc:Int)+1))).alloc (.cells #[.string ⟨#[102,111,114,99,101]⟩,.int .i64 A,.int .i64 B,.int .i64 C,.string dto] 73)).drew) (by repeat (first|exact Mod.refl _ _|refine Mod.drew ?_|refine Mod.drewN ?_ _|refine Mod.alloc ?_ _))
 have hbx:∀k,Foot ty allK L (m.setPc t (h.pc+1)) k→k<w1.heap.size:=fun k hk=>by
  have:=(HX1.out.pc Hh.out hlt).mach.rep.lt hk
  simpa using this
 have HU0:=Lib.hid U0;have Hbx:=Lib.hid hbx;clear U0 hbx;go_wp2;clear t0 t1 t2 t3 r0 r1 r2 c0 c1 c2 c3 c4
 go_loopw [29] (fun i wr=>∃k:Nat,k≤m.T.length∧i=.int .i64 k∧∃Lr,MUp ty w L m wr Lr ((m.setPc t (h.pc+1)).force k) (N+8*k)) (fun i _=>m.T.length - (intOf i).toNat)
 case atStart=>exact ⟨0,Nat.zero_le _,rfl,L,by simpa[M.force]using HU0.out⟩
 case round=>
  rename_i wr
  obtain ⟨k,hk,rfl,Lr,Ur⟩:=hrel
  have hlenT:((m.setPc t (h.pc+1)).force k).T.length=m.T.length:=by rw[force_T];simp[M.setPc]
  obtain ⟨q0,q1,q2,q3,q4,q5⟩:=Ur.mach.top;rw[Ur.top.1]at q0 q1 q5;rw[hlenT]at q1;have hcall:=machFence_any Ur.mach (by omega) k;rw[Ur.top.1]at hcall;have HUr:=Lib.hid Ur;have Hcall:=Lib.hid hcall;clear Ur hcall q2 q3 q4
  by_cases hlt:k<m.T.length
  ·have hd:decide ((k:Int)<(m.T.length:Int))=true:=by simp;omega
   go_wp2_with fail
   refine (Hcall.out (by rw[hlenT];exact hlt)).mono ?_;rintro e w7 ⟨rfl,L7,U7⟩;have HU7:=Lib.hid U7;clear U7;go_wp2
   go_roundw
   case rel=>
    refine ⟨k+1,by omega,by go_num,L7,?_⟩;rw[show N+8*((k+1:Nat):Int)=N+8*(k:Int)+8 from by omega];exact HUr.out.trans HU7.out
   case measure=>simp[intOf];omega
  ·have hd:decide ((k:Int)<(m.T.length:Int))=false:=by simp;omega
   obtain rfl:k=m.T.length:=by omega
   go_wp2;go_ret;exact ⟨rfl,Lr,HUr.out.mono (by omega)⟩
end
section
open Go.RowKit Qs Qh
variable {w:World}{L:Lay}{m:M}{N:Int}
theorem step_mark_full(X:Mach ty w L m N)(hN:N≤10000000000)(t:Nat)(ht:t<m.T.length){h:Thr}(hh:m.T[t]?=some h){a b c:Nat}{A B C:Int}{to:List UInt8}(hx:h.code[h.pc]?=some ⟨18,a,B,C,to⟩)(ha:a<8)(h5:¬m.marks.length<500) :
  Calls Tryz.prog 15 #[.pointer (some ⟨L.blk 0 0,0,none⟩),.int .i64 t] w fun e w'=>e=.returned (.int .i64 0)∧∃L',MUp ty w L m w' L' (m.setPc t (h.pc+1)) N:=by
 have hthr:m.thr t=h:=by simp[M.thr,List.getD,hh]
 have hdone:m.done t=false:=by unfold M.done;rw[hthr,hx];rfl
 obtain ⟨t0,t1,t2,t3,t4,t5⟩:=X.top
 have ht6:m.T.length≤6:=by have:=X.om.waits;have:=X.ot.len;omega
 have hsp:=X.olt.sp4;have hsp8:=X.olt.sp8 t ht
 have d0:decide ((t:Int)<0)=false:=by simp
 have d1:decide ((m.T.length:Int)≤(t:Int))=false:=by simp;omega
 have HX:=Lib.hid X;have Hh:=Lib.hid hh;have Hx:=Lib.hid hx;have Hthr:=Lib.hid hthr;have Hdone:=Lib.hid hdone;clear X hh hx hthr hdone t4
 go_enter Tryz.func15,Tryz.ntmps15
 go_wp2_with fail
 refine (done_any HX.out t ht).mono ?_;rintro e w1 ⟨rfl,hm⟩;rw[Hdone.out];have X1:=HX.out.frame0 hm;have HX1:=Lib.hid X1;have Hm:=Lib.hid hm;clear t0 t1 t2 t3 t5;obtain ⟨t0,t1,t2,t3,t4,t5⟩:=X1.top;obtain ⟨r0,r1,r2,r3,r4⟩:=X1.thr_at Hh.out;obtain ⟨cb,off,cc,e,hcb,hcell⟩:=code_cell X1 Hh.out Hx.out
 rw[e]at r0;obtain ⟨hpc,hco⟩:=X1.ot.code t h Hh.out;have hlen:=hco.len;have hlt:h.pc<h.code.length:=(List.getElem?_eq_some_iff.1 Hx.out).1;have c0:=hcell 0 _ rfl;have c1:=hcell 1 _ rfl;have c2:=hcell 2 _ rfl;have c3:=hcell 3 _ rfl;have c4:=hcell 4 _ rfl
 simp only[Nat.add_zero,opStr,iv,sv]at c0 c1 c2 c3 c4;generalize hd4:(⟨to.toArray⟩:ByteArray)=dto at *;have Hd4:=Lib.hid hd4;obtain ⟨ga0,ga1,ga2⟩:=X1.reg_at Hh.out ha;have wa:=X1.regWord Hh.out ha;generalize hva:h.regs.getD a 0=va at *;obtain ⟨wa0,wa1⟩:=of_isWord wa;have Hva:=Lib.hid hva
 have Hwa:=Lib.hid wa;clear hva wa;have f4:=r3 (t*3+2);have n48:L.blk 4 0≠L.blk 8 t:=X1.ne (by rw[obj4 ty m X1.olt.n4];rfl) (by rw[obj8 ty (X1.olt.n8 t ht) Hh.out];rfl) (by omega);have n04:L.blk 0 0≠L.blk 4 0:=X1.ne rfl (by rw[obj4 ty m X1.olt.n4];rfl) (by omega)
 have n08:L.blk 0 0≠L.blk 8 t:=X1.ne rfl (by rw[obj8 ty (X1.olt.n8 t ht) Hh.out];rfl) (by omega);have He:=Lib.hid e;clear hm X1 e hpc hco hcell t4 r3 hd4
 have hrow:∃sa sb sc,L.row 5 0 m.marks.length=.slice sa sb sc∧sb=m.marks.length:=by
  unfold Lay.row
  cases h:L.nil 5 0 with
  |true=>exact ⟨none,0,0,rfl,by rw[HX1.out.olt.n5 h];rfl⟩
  |false=>exact ⟨_,_,_,rfl,rfl⟩
 obtain ⟨sa,sb,sc,hrow,rfl⟩:=hrow;have hown:=HX1.out.owns5;rw[hrow]at t2 hown
 have dm:decide ((m.marks.length:Int)<500)=false:=by simp;omega
 go_wp2
 go_region
 go_wp2;go_ret;refine ⟨rfl,L,?_⟩;exact MUp.then0 ((MUp.quiet HX.out Hm.out).trans (HX1.out.pc Hh.out hlt)) (by repeat (first|exact Mod.refl _ _|refine Mod.drew ?_|refine Mod.drewN ?_ _|refine Mod.alloc ?_ _))
end
section
open Go.RowKit Qs Qh
variable {w:World}{B:PB}{l:List Cell}{ws:List (List Wt)}{vs:List Value}{a:Nat→Addr}
theorem pstore_any(h:PMV w B l ws vs)(E:Errs4 w a)(C:CellsOk l)(hn6:ws.length≤6){t:Nat}{q:List Wt}(hq:ws[t]?=some q)(hql:q.length≤8)(c r W V:Int) :
  Calls Tryz.prog 90 #[.pointer (some ⟨B.bM,0,none⟩),.int .i64 t,.agg #[.int .i64 c,.int .i64 r],.int .i64 W,.int .i64 V] w fun e w'=>e=.returned (errOf' a (pstE l q c r W V))∧∃vs',PUp w B vs w' l (if pstE l q c r W V=0 then ws.set t (q++[⟨c,r,W,V⟩])else ws) vs':=by
 rcases loadE_cases l c r W with he|he|he
 ·cases hv:isWord V with
  |false=>
   have e:pstE l q c r W V=2:=by simp[pstE,he,hv]
   rw[e,if_neg (by decide)];exact (pstore_bound h E C.len C.times hn6 hq hql c r W V _ he hv).mono fun e w' h=>⟨h.1,_,h.2⟩
  |true=>
   by_cases h8:8≤q.length
   ·have e:pstE l q c r W V=6:=by simp[pstE,he,hv,h8]
    rw[e,if_neg (by decide)];exact (pstore_full h E C.len C.times hn6 hq hql c r W V _ he hv h8).mono fun e w' h=>⟨h.1,_,h.2⟩
   ·have e:pstE l q c r W V=0:=by simp[pstE,he,hv,h8]
    rw[e,if_pos rfl];exact pstore_ok h E C.len C.times hn6 hq hql c r W V _ he hv (by omega)
 ·have e:pstE l q c r W V=2:=by simp[pstE,he]
  rw[e,if_neg (by decide)];exact (pstore_err2 h E C.len C.times hq c r W V he).mono fun e w' h=>⟨h.1,_,h.2⟩
 ·have e:pstE l q c r W V=7:=by simp[pstE,he]
  rw[e,if_neg (by decide)];exact (pstore_err7 h E C.len C.times hq c r W V he).mono fun e w' h=>⟨h.1,_,h.2⟩
def ploadV(l:List Cell)(q:List Wt)(c r W:Int):Int:=if (loadE l c r W).2=0 then Qs.look q c r W (loadE l c r W).1 else 0
theorem pload_any(h:PMV w B l ws vs)(E:Errs4 w a)(C:CellsOk l)(hn6:ws.length≤6){t:Nat}{q:List Wt}(hq:ws[t]?=some q)(hql:q.length≤8)(c r W:Int) :
  Calls Tryz.prog 88 #[.pointer (some ⟨B.bM,0,none⟩),.int .i64 t,.agg #[.int .i64 c,.int .i64 r],.int .i64 W] w fun e w'=>e=.returned (.tuple #[.int .i64 (ploadV l q c r W),errOf' a (loadE l c r W).2])∧Mod noF w w':=by
 rcases loadE_cases l c r W with he|he|he
 ·have e:ploadV l q c r W=Qs.look q c r W (getWord l c.toNat W.toNat):=by simp[ploadV,he]
  rw[e,he];exact pload_ok h E C.len C.times hn6 hq hql c r W _ he
 ·have e:ploadV l q c r W=0:=by simp[ploadV,he]
  rw[e,he];exact pload_err2 h E C.len C.times hq c r W he
 ·have e:ploadV l q c r W=0:=by simp[ploadV,he]
  rw[e,he];exact pload_err7 h E C.len C.times hq c r W he
end
section
open Go.RowKit Qs Qh
variable {w:World}{L:Lay}{m:M}{N:Int}
theorem mdrain_any(X:Mach ty w L m N)(hN:N≤10000000000)(t:Nat)(ht:t<m.T.length) :
  Calls Tryz.prog 17 #[.pointer (some ⟨L.blk 0 0,0,none⟩),.int .i64 t] w fun e w'=>e=.returned (.int .i64 (m.drain t).2)∧∃L',MUp ty w L m w' L' (m.drain t).1 (N+1):=by
 obtain ⟨l,hl⟩:∃l,m.waits[t]?=some l:=⟨_,List.getElem?_eq_getElem (by rw[X.ot.len];exact ht)⟩
 have hwo:m.waitsOf t=l:=by simp[M.waitsOf,List.getD,hl]
 obtain ⟨t0,t1,t2,t3,t4,t5⟩:=X.top;have hf:=X.ot.f0
 have d0:decide ((t:Int)<0)=false:=by simp
 have d1:decide ((m.T.length:Int)≤(t:Int))=false:=by simp;omega
 have HX:=Lib.hid X
 cases l with
 |nil=>
  have hcall:=drain_none X.rep rfl rfl X.om X.ol t hl
  have hdr:m.drain t=(m,5):=by unfold M.drain;rw[hwo]
  have Hdr:=Lib.hid hdr;have Hcall:=Lib.hid hcall;clear hdr hcall X t4 hl hwo
  go_enter Tryz.func17,Tryz.ntmps17
  go_wp2_with (go_at_call 52;refine Hcall.out.mono ?_;rintro e w5 ⟨rfl,rfl⟩)
  go_ret;rw[Hdr.out];exact ⟨rfl,L,(MUp.quiet HX.out (Mod.refl _ _)).mono1⟩
 |cons x r=>
  have hcall:=drain_some X.rep rfl rfl rfl rfl rfl X.om X.ol (by omega) t hl;have hval:=X.om.wval t _ hl;have hx0:=(hval x (by simp)).1
  have om5:OkM N {m with cells:=(drain1 m.cells x).1,waits:=m.waits.set t r}:=
   (X.om.drain1 hx0).setWaits (by have:=X.om.wlen t _ hl;simp at this;omega) (fun y hy=>by simpa[drain1_length]using hval y (by simp[hy]))
  have hdr:m.drain t=({m with cells:=(drain1 m.cells x).1,waits:=m.waits.set t r,faults:=m.faults+(if (drain1 m.cells x).2 then 1 else 0)},0):=by unfold M.drain;rw[hwo]
  have hbad:=drain1_bad m.cells x;have Hdr:=Lib.hid hdr;have Hcall:=Lib.hid hcall;have Hom5:=Lib.hid om5
  cases hh:hereIn m.cells x.c x.g with
  |true=>
   rw[hh]at hbad
   have hde:drainE m.cells x=0:=by unfold drainE;rw[if_pos hh]
   have Hde:=Lib.hid hde;have Hbad:=Lib.hid hbad;clear hdr hcall X t4 hl hwo hval om5 hbad hh hde hx0
   go_enter Tryz.func17,Tryz.ntmps17
   go_wp2_with (go_at_call 52;refine Hcall.out.mono ?_;rintro e w5 ⟨rfl,L5,hU5⟩;rw[show drainE _ x=0 from Hde.out])
   go_ret;rw[Hdr.out,Hbad.out];refine ⟨rfl,L5,?_⟩;have U:=(HX.out.up (Int.le_refl N) hU5 Hom5.out rfl rfl rfl (by simp)).mono1
   simpa using U
  |false=>
   rw[hh]at hbad
   have hde:drainE m.cells x=7:=by unfold drainE;rw[if_neg (by rw[hh];decide)]
   have Hde:=Lib.hid hde;have Hbad:=Lib.hid hbad;clear hdr hcall X t4 hl hwo hval om5 hbad hh hde hx0
   go_enter Tryz.func17,Tryz.ntmps17
   go_wp2_with fail
   refine Hcall.out.mono ?_;rintro e w5 ⟨rfl,L5,hU5⟩;rw[show drainE _ x=7 from Hde.out];have U5:=HX.out.up (Int.le_refl N) hU5 Hom5.out rfl rfl rfl (by simp);obtain ⟨x0,x1,x2,x3,x4,x5⟩:=U5.mach.top;have x43:=x4 3;have E0:=U5.top.1;rw[E0]at x0 x3 x43 x5;have HE0:=Lib.hid E0;have HU5:=Lib.hid U5
   clear x1 x2 x4 E0 hU5 U5;go_wp2;go_ret;rw[Hdr.out,Hbad.out];refine ⟨rfl,L5,?_⟩;have V:=HU5.out.trans (HU5.out.mach.setFaults (N':=N+1) (m.faults+1) (by omega) (by omega) (by omega));rw[HE0.out]at V
   simpa using V
end
section
open Go.RowKit Qs Qh
def newT(_:Nat)(p:Value × Nat):List Value:=[p.1,.map (some p.2),iv 0,iv 0,iv 0,iv 0,iv 0,iv 0,iv 0,iv 0,iv 0]
theorem flat_newT_snoc(p:Value × Nat):∀(l:List (Value × Nat)) (s:Nat),flat newT s (l++[p])=flat newT s l++newT 0 p
 |[],s=>by simp[flat];rfl
 |x :: l,s=>by
  have:=flat_newT_snoc p l (s+1);simp only[List.cons_append,flat,this,List.append_assoc]
structure NewP(w0 w:World)(bX:Nat)(P:PB)(l:List Cell)(t:Nat)(v:Value)(ps:List (Value × Nat))(cs:List (List Instr)):Prop where
 base:Mod noF w0 w
 top:w.heap[bX]?=some (.cells #[.pointer (some ⟨P.bM,0,none⟩),v,.slice none 0 0,.int .i64 0] 87 (0,0))
 lo:w0.heap.size≤bX
 mem:PMV w P l (List.replicate t []) (List.replicate t (.slice none 0 0))
 mlo:∀x,PFoot P (List.replicate t (.slice none 0 0)) x→w0.heap.size≤x∧x≠bX
 row:w.ownsRow 0 99 11 v ps.length (flat newT 0 ps)
 vlo:∀g,v.ownBlock=some g→w0.heap.size≤g∧g≠bX∧¬PFoot P (List.replicate t (.slice none 0 0)) g
 len:ps.length=cs.length
 code:∀(i:Nat) p c,ps[i]?=some p→cs[i]?=some c→CodeAt w p.1 c∧LabMap w p.2 c
 clo:∀(i:Nat) p,ps[i]?=some p→(∀g,p.1.ownBlock=some g→(w0.heap.size≤g∧g≠bX∧¬PFoot P (List.replicate t (.slice none 0 0)) g∧¬v.ownBlock=some g)∧g<w.heap.size)∧
  (w0.heap.size≤p.2∧p.2≠bX∧¬PFoot P (List.replicate t (.slice none 0 0)) p.2∧¬v.ownBlock=some p.2)
variable {w0 w w1 w2 w3 w':World}{bX:Nat}{P:PB}{l:List Cell}{t:Nat}{v v':Value}{ps:List (Value × Nat)}{cs:List (List Instr)}
theorem rowMod{w w':World}{T:TypeId}{sz k:Nat}{v:Value}{xs:List Value}{F:Nat→Prop}(h:w.ownsRow 0 T sz v k xs)(hM:Mod F w w')(hF:∀g,v.ownBlock=some g→¬F g):w'.ownsRow 0 T sz v k xs:=by
 refine ⟨h.1,?_⟩
 rcases h.2 with e|⟨g,cap,cur,rfl,h0,hg,r⟩
 ·exact .inl e
 ·exact .inr ⟨g,cap,cur,rfl,h0,hM.heap hg (hF g rfl),r⟩
theorem NewP.keep0(h:NewP w0 w bX P l t v ps cs)(hM:Mod noF w w'):NewP w0 w' bX P l t v ps cs:=
 ⟨h.base.trans0 hM,hM.heap h.top (fun e=>e),h.lo,h.mem.keep0 hM,h.mlo,rowMod h.row hM (fun _ _ e=>e),h.vlo,h.len,
  fun i p c hp hc=>⟨(h.code i p c hp hc).1.frame hM (fun _ _ e=>e),(h.code i p c hp hc).2.keep hM (fun e=>e)⟩,
  fun i p hp=>⟨fun g hg=>⟨((h.clo i p hp).1 g hg).1,Nat.lt_of_lt_of_le ((h.clo i p hp).1 g hg).2 hM.size⟩,(h.clo i p hp).2⟩⟩
theorem NewP.start(hP:PMV w P l (List.replicate t []) (List.replicate t (.slice none 0 0)))(hM:Mod noF w0 w)(hF:∀x,PFoot P (List.replicate t (.slice none 0 0)) x→w0.heap.size≤x) :
  NewP w0 (w.alloc (.cells #[.pointer (some ⟨P.bM,0,none⟩),.slice none 0 0,.slice none 0 0,.int .i64 0] 87)) w.heap.size P l t (.slice none 0 0) [] []:=by
 have hq:=(Mod.refl noF w).alloc (.cells #[.pointer (some ⟨P.bM,0,none⟩),.slice none 0 0,.slice none 0 0,.int .i64 0] 87)
 refine ⟨hM.alloc _,heap_alloc_new w _,hM.size,hP.keep0 hq,fun x hx=>⟨hF x hx,fun e=>by have:=hP.lt hx;omega⟩,World.ownsRow_nil _ 0 _ 11,fun g h=>by simp[Value.ownBlock]at h,rfl,fun i p c h=>by simp at h,fun i p h=>by simp at h⟩
theorem NewP.next(h:NewP w0 w bX P l t v ps cs){p:Value × Nat}{c:List Instr}(hM1:Mod noF w w1)(hc:CodeAt w1 p.1 c)(hl:LabMap w1 p.2 c)(hp1:∀g,p.1.ownBlock=some g→w.heap.size≤g∧g<w1.heap.size)(hp2:w.heap.size≤p.2)
  (hown:w3.ownsRow 0 99 11 v' (ps.length+1) (flat newT 0 ps++newT 0 p)) (hM3:Mod (fun x=>v.ownBlock=some x) w1 w3) (hfr:∀g,v'.ownBlock=some g→v.ownBlock=some g∨w1.heap.size≤g) :
  NewP w0 (w3.setCell ⟨bX,1,none⟩ v') bX P l t v' (ps++[p]) (cs++[c]):=by
 have hbX:=lt_of_block h.top;have hs1:=hM1.size;have hM13:Mod (fun x=>v.ownBlock=some x) w w3:=hM1.any.trans hM3 (fun _ _ e=>e);have hlw:p.2<w1.heap.size:=hl.lt;have hM4:Mod (fun x=>x=bX) w3 (w3.setCell ⟨bX,1,none⟩ v'):=(Mod.refl (fun x=>x=bX) w3).setCell (fun _=>rfl) _
 have hMM:Mod (fun x=>v.ownBlock=some x∨x=bX) w (w3.setCell ⟨bX,1,none⟩ v'):=(hM13.mono fun _ _ e=>.inl e).trans hM4 (fun _ _ e=>.inr e);have hMM1:Mod (fun x=>v.ownBlock=some x∨x=bX) w1 (w3.setCell ⟨bX,1,none⟩ v'):=(hM3.mono fun _ _ e=>.inl e).trans hM4 (fun _ _ e=>.inr e);have hs0:=h.base.size
 have htop3:=hM13.heap h.top (fun e=>(h.vlo _ e).2.1 rfl)
 have hv':∀g,v'.ownBlock=some g→w0.heap.size≤g∧g≠bX∧¬PFoot P (List.replicate t (.slice none 0 0)) g:=fun g hg=>by
  rcases hfr g hg with e|e
  ·exact h.vlo g e
  ·exact ⟨by omega,by omega,fun e2=>by have:=h.mem.lt e2;omega⟩
 have hnv:∀g,g<w1.heap.size→¬v.ownBlock=some g→¬v'.ownBlock=some g:=fun g hg hn e=>(hfr g e).elim hn (fun e2=>by omega);have hvlt:∀g,v.ownBlock=some g→g<w.heap.size:=fun g hg=>(World.ownsRow.lt h.row g hg).2;have hsz:=hMM.size;have hsz1:=hMM1.size
 refine ⟨h.base.trans hMM (fun x hx e=>?_),?_,h.lo,h.mem.keep hMM (fun x hx e=>?_),h.mlo,?_,hv',by simp[h.len],fun i q d hq hd=>?_,fun i q hq=>?_⟩
 ·rcases e with e|e
  ·have:=(h.vlo x e).1;omega
  ·have:=h.lo;omega
 ·rw[Qh.heap_setCell_same htop3];simp
 ·rcases e with e|e
  ·exact (h.vlo x e).2.2 hx
  ·exact (h.mlo x hx).2 e
 ·rw[List.length_append,List.length_singleton,flat_newT_snoc];exact rowMod hown hM4 (fun g hg=>(hv' g hg).2.1)
 ·rw[List.getElem?_append]at hq hd
  by_cases e:i<ps.length
  ·rw[if_pos e]at hq;rw[if_pos (by rw[←h.len];exact e)]at hd;obtain ⟨a,b⟩:=h.code i q d hq hd;obtain ⟨c1,c2⟩:=h.clo i q hq;exact ⟨a.frame hMM (fun g hg e=>e.elim ((c1 g hg).1.2.2.2) (c1 g hg).1.2.1),b.keep hMM (fun e=>e.elim c2.2.2.2 c2.2.1)⟩
  ·rw[if_neg e]at hq;rw[if_neg (by rw[←h.len];exact e)]at hd
   have e0:i - ps.length=0:=by have:=(List.getElem?_eq_some_iff.1 hq).1;simp at this;omega
   rw[e0]at hq;rw[←h.len,e0]at hd;cases hq;cases hd;refine ⟨hc.frame hMM1 (fun g hg e=>?_),hl.keep hMM1 (fun e=>?_)⟩
   ·have:=(hp1 g hg).1
    rcases e with e|e
    ·have:=hvlt g e;omega
    ·omega
   ·rcases e with e|e
    ·have:=hvlt _ e;omega
    ·omega
 ·rw[List.getElem?_append]at hq
  by_cases e:i<ps.length
  ·rw[if_pos e]at hq;obtain ⟨c1,c2⟩:=h.clo i q hq;refine ⟨fun g hg=>⟨⟨(c1 g hg).1.1,(c1 g hg).1.2.1,(c1 g hg).1.2.2.1,hnv g (by have:=(c1 g hg).2;omega) (c1 g hg).1.2.2.2⟩,by have:=(c1 g hg).2;omega⟩,c2.1,c2.2.1,c2.2.2.1,?_⟩
   obtain ⟨d,hd⟩:∃d,cs[i]?=some d:=⟨_,List.getElem?_eq_getElem (by rw[←h.len];exact e)⟩;have:=(h.code i q d hq hd).2.lt;exact hnv _ (by omega) c2.2.2.2
  ·rw[if_neg e]at hq
   have e0:i - ps.length=0:=by have:=(List.getElem?_eq_some_iff.1 hq).1;simp at this;omega
   rw[e0]at hq;cases hq
   have hfoot:∀g,w.heap.size≤g→¬PFoot P (List.replicate t (.slice none 0 0)) g:=fun g hg e2=>by have:=h.mem.lt e2;omega
   refine ⟨fun g hg=>?_,by omega,by omega,hfoot _ hp2,hnv _ hlw (fun e=>by have:=hvlt _ e;omega)⟩;obtain ⟨k1,k2⟩:=hp1 g hg;exact ⟨⟨by omega,by omega,hfoot g k1,hnv g k2 (fun e=>by have:=hvlt _ e;omega)⟩,by omega⟩
def newX(bX:Nat)(P:PB)(bL cap:Nat)(ps:List (Value × Nat)):XB:=
 ⟨bX,bL,cap,P,fun i=>(ps.getD i (.slice none 0 0,0)).1,fun i=>(ps.getD i (.slice none 0 0,0)).2⟩
def newThr(c:List Instr):Thr:=⟨c,[0,0,0,0,0,0,0,0],0⟩
theorem NewP.mach(h:NewP w0 w bX P l t v ps cs)(h0:0<ps.length):∃bL cap,v=.slice (some ⟨bL,0,none⟩) ps.length cap∧
  PMach w (newX bX P bL cap ps) (List.replicate t (.slice none 0 0)) (.slice none 0 0) ⟨l,List.replicate t [],cs.map newThr,[],0⟩∧
  (∀x,XFoot (newX bX P bL cap ps) (List.replicate t (.slice none 0 0)) (.slice none 0 0) x→w0.heap.size≤x)∧
  (∀(i:Nat) p,ps[i]?=some p→(∀g,p.1.ownBlock=some g→w0.heap.size≤g)∧w0.heap.size≤p.2):=by
 rcases h.row.2 with ⟨-,e⟩|⟨g,cap,cur,rfl,-,hg,h1,h2,h3,h4⟩
 ·omega
 ·have hgd:∀(i:Nat) p,ps[i]?=some p→(newX bX P g cap ps).cv i=p.1∧(newX bX P g cap ps).mb i=p.2:=fun i p hp=>by simp[newX,List.getD,hp]
  have hv:=h.vlo g rfl
  have hT:∀(i:Nat) k,(cs.map newThr)[i]?=some k→∃c p,cs[i]?=some c∧ps[i]?=some p∧k=newThr c:=fun i k hk=>by
   rw[List.getElem?_map]at hk;obtain ⟨c,hc,rfl⟩:=Option.map_eq_some_iff.1 hk;have hi:=(List.getElem?_eq_some_iff.1 hc).1;exact ⟨c,_,hc,List.getElem?_eq_getElem (by rw[h.len];exact hi),rfl⟩
  have hxf:∀x,XFoot (newX bX P g cap ps) (List.replicate t (.slice none 0 0)) (.slice none 0 0) x→x=bX∨x=g∨PFoot P (List.replicate t (.slice none 0 0)) x:=fun x hx=>by
   rcases hx with e|e|e|e
   ·exact .inl e
   ·exact .inr (.inl e)
   ·exact .inr (.inr e)
   ·simp[Value.ownBlock]at e
  refine ⟨g,cap,rfl,⟨?_,⟨cur.toList.drop (ps.length*11),?_⟩,h.mem,fun i k hk=>?_,fun i k hk=>?_,offRow_nil _ _ _,⟨fun e=>hv.2.1 e.symm,fun e=>(h.mlo _ e).2 rfl,hv.2.2⟩,fun y hy=>by simp[Value.ownBlock]at hy⟩,fun x hx=>?_,fun i p hp=>⟨fun y hy=>((h.clo i p hp).1 y hy).1.1,(h.clo i p hp).2.1⟩⟩
  ·have:=h.top;rw[h.len]at this
   simpa[newX]using this
  ·have e:flat (tVals (newX bX P g cap ps)) 0 (cs.map newThr)=flat newT 0 ps:=flat_congr2 _ _ 0 (by simp[h.len]) fun i k p hk hp=>by
    obtain ⟨c,p',hc,hp',rfl⟩:=hT i k hk;rw[hp]at hp';cases hp';obtain ⟨e1,e2⟩:=hgd i p hp;rw[Nat.zero_add];unfold tVals;rw[e1,e2];rfl
   rw[e,←h4,List.take_append_drop];show w.heap[g]?=_
   simpa using hg
  ·obtain ⟨c,p,hc,hp,rfl⟩:=hT i k hk;obtain ⟨e1,e2⟩:=hgd i p hp;rw[e1];refine ⟨(h.code i p c hp hc).1,fun y hy=>⟨fun e=>?_,((h.clo i p hp).1 y hy).2⟩⟩;obtain ⟨⟨k1,k2,k3,k4⟩,-⟩:=(h.clo i p hp).1 y hy
   rcases hxf y e with e|e|e
   ·exact k2 e
   ·exact k4 (by rw[e];rfl)
   ·exact k3 e
  ·obtain ⟨c,p,hc,hp,rfl⟩:=hT i k hk;obtain ⟨e1,e2⟩:=hgd i p hp;rw[e2];refine ⟨(h.code i p c hp hc).2,fun e=>?_⟩;obtain ⟨k1,k2,k3,k4⟩:=(h.clo i p hp).2
   rcases hxf _ e with e|e|e
   ·exact k2 e
   ·exact k4 (by rw[e];rfl)
   ·exact k3 e
  ·rcases hxf x hx with e|e|e
   ·rw[e];exact h.lo
   ·rw[e];exact hv.1
   ·exact (h.mlo x e).1
end
section
open Go.RowKit Qs Qh
variable {w w1 w2 w':World}{X:XB}{vs vs':List Value}{mv mv':Value}{m m':M}
theorem wpList_copy_mod{P:Program}{w:World}{ops:Array Oper}{rest:List Oper}{o:Oper}{a:Act}{Q:Exit→Act→World→Prop}(hgd:o.guard=none)(d s:Operand)(dT sT:TypeId)
  (ho:o.op=.call {callee:=.builtin .copy,args:=#[d,s],argTypes:=#[dT,sT]}) (elem:TypeId) (hu:P.underlying dT=some (.slice elem)) (hsz:(P.info? elem).map (·.size)=some 1)
  (sp:Option Addr) (dLen dCap sLen sCap:Nat) (g off:Nat) (hd:a.eval d=.slice (some ⟨g,off,none⟩) dLen dCap) (hs:a.eval s=.slice sp sLen sCap)
  (cur:List Value) (t:TypeId) (hg:w.heap[g]?=some (.cells cur.toArray t (0,0))) (cs:List Value) (hn:cs.length=Nat.min sLen dLen)
  (hsrc:0<cs.length→∃ad,sp=some ad∧∀j v,cs[j]?=some v→w.cell? (ad.add j)=some v)
  (hfit:off+cs.length≤cur.length) (h1:∀v∈cs,v.oneCell'=true)
  (h:∀w',w'.heap[g]?=some (.cells (splice cur off cs).toArray t (0,0))→Mod (fun x=>x=g) w w'→wpList P ops Q rest (a.put o.dst (goInt cs.length)) w') :
  wpList P ops Q (o :: rest) a w:=by
 by_cases h0:cs.length=0
 ·obtain rfl:cs=[]:=List.eq_nil_of_length_eq_zero h0;refine wpList_copy_nothing hgd d s dT sT ho elem hu hsz (some ⟨g,off,none⟩) sp dLen dCap sLen sCap hd hs (by simpa using hn.symm) ?_;exact h w (show _=_ by simpa[splice]using hg) (Mod.refl _ _)
 ·obtain ⟨ad,rfl,hsrc2⟩:=hsrc (by omega);refine wpList_copy_own hgd d s dT sT ho elem hu hsz g off dLen dCap ad sLen sCap hd hs cur.toArray t hg cs hn hsrc2 (by simpa using hfit) h1 ?_
  exact h _ (show _=_ by simpa[splice]using setRow_heap w g _ _ t _ hg) ⟨rfl,rfl,rfl,by simp[World.setRow],fun k hk hf=>setRow_other w g k _ hf⟩
theorem copy_run{P:Program}(w:World)(dT sT ty elem:TypeId)(hu:P.underlying dT=some (.slice elem))(hsz:(P.info? elem).map (·.size)=some 1)
  (sp:Option Addr) (dLen dCap sLen sCap:Nat) (g off:Nat) (cur:List Value) (t:TypeId) (hg:w.heap[g]?=some (.cells cur.toArray t (0,0))) (cs:List Value) (hn:cs.length=Nat.min sLen dLen)
  (hsrc:0<cs.length→∃ad,sp=some ad∧∀j v,cs[j]?=some v→w.cell? (ad.add j)=some v)
  (hfit:off+cs.length≤cur.length) (h1:∀v∈cs,v.oneCell'=true) :
  ∃w',(Builtin.copy_ #[dT,sT] ty #[.slice (some ⟨g,off,none⟩) dLen dCap,.slice sp sLen sCap]).run P w=.ok (goInt cs.length) w'∧w'.heap[g]?=some (.cells (splice cur off cs).toArray t (0,0))∧Mod (fun x=>x=g) w w':=by
 by_cases h0:cs.length=0
 ·obtain rfl:cs=[]:=List.eq_nil_of_length_eq_zero h0;have hrun:=run_copy_none (P:=P) w dT sT ty elem (some ⟨g,off,none⟩) sp dLen dCap sLen sCap hu hsz (by simpa using hn.symm);exact ⟨w,hrun,by simpa[splice]using hg,Mod.refl _ _⟩
 ·obtain ⟨ad,rfl,hsrc2⟩:=hsrc (by omega);have hrun:=run_copy_row (P:=P) w dT sT ty elem g off dLen dCap ad sLen sCap cur.toArray t cs hu hsz hg hn hsrc2 (by simpa using hfit) h1
  exact ⟨_,hrun,by simpa[splice]using setRow_heap w g _ _ t _ hg,⟨rfl,rfl,rfl,by simp[World.setRow],fun k hk hf=>setRow_other w g k _ hf⟩⟩
theorem flat_cut{α : Type}(f:Nat→α→List Value)(n:Nat)(hf:∀s x,(f s x).length=n):∀(l:List α) (s t:Nat) (x : α),l[t]?=some x→
  ∃A B,A.length=t*n∧flat f s l=A++(f (s+t) x++B)∧∀y,flat f s (l.set t y)=A++(f (s+t) y++B)
 |[],s,t,x,h=>by simp at h
 |z :: l,s,0,x,h=>by cases h;exact ⟨[],flat f (s+1) l,by simp,rfl,fun y=>rfl⟩
 |z :: l,s,t+1,x,h=>by
  obtain ⟨A,B,hA,h1,h2⟩:=flat_cut f n hf l (s+1) t x (by simpa using h)
  have e:s+1+t=s+(t+1):=by omega
  rw[e]at h1 h2;refine ⟨f s z++A,B,?_,?_,fun y=>?_⟩
  ·rw[List.length_append,hf,hA,Nat.add_mul];omega
  ·simp only[flat,h1,List.append_assoc]
  ·simp only[List.set_cons_succ,flat,h2,List.append_assoc]
theorem splice_mid(A V B cs:List Value)(o:Nat)(h:o+cs.length≤V.length):splice (A++(V++B)) (A.length+o) cs=A++(splice V o cs++B):=by
 unfold splice
 rw[List.take_append,List.take_of_length_le (by omega),show A.length+o - A.length=o from by omega,List.take_append_of_le_length (by omega),
  show A.length+o+cs.length=A.length+(o+cs.length)from by omega,List.drop_append,List.drop_eq_nil_of_le (by omega),show A.length+(o+cs.length) - A.length=o+cs.length from by omega,List.drop_append_of_le_length h]
 simp
theorem PMach.setThrG(h:PMach w X vs mv m){t:Nat}{k k':Thr}(ht:m.T[t]?=some k)(hc:k'.code=k.code)(hM:Mod (fun x=>x=X.bL) w w')
  (hb':∃junk,w'.heap[X.bL]?=some (.cells (flat (tVals X) 0 (m.T.set t k')++junk).toArray 99 (0,0))):XUp w X vs mv m w' {m with T:=m.T.set t k'} vs mv:=by
 obtain ⟨n1,n2,n3⟩:=h.nX
 have hT:∀(u:Nat) k2,(m.T.set t k')[u]?=some k2→∃k1,m.T[u]?=some k1∧k2.code=k1.code:=fun u k2 hu=>by
  rw[List.getElem?_set]at hu
  by_cases e:t=u
  ·subst e;rw[if_pos rfl,if_pos (List.getElem?_eq_some_iff.1 ht).1]at hu;cases hu;exact ⟨k,ht,hc⟩
  ·rw[if_neg e]at hu;exact ⟨k2,hu,rfl⟩
 have hcn:∀(u:Nat) k1,m.T[u]?=some k1→(∀g,(X.cv u).ownBlock=some g→¬g=X.bL)∧¬X.mb u=X.bL:=fun u k1 hu=>
  ⟨fun g hg e=>((h.code u k1 hu).2 g hg).1 (.inr (.inl e)),fun e=>(h.maps u k1 hu).2 (.inr (.inl e))⟩
 refine ⟨⟨?_,hb',h.mem.keep hM (fun x hx e=>n3 (e ▸ hx)),fun u k2 hu=>?_,fun u k2 hu=>?_,h.marks.keep hM (fun g hg=>(h.nM g hg).2.1),h.nX,h.nM⟩,hM.mono fun x _ e=>.inr (.inl e),fun _ h=>.inl h⟩
 ·have:=hM.heap h.top n1
  simpa using this
 ·obtain ⟨k1,hk1,e⟩:=hT u k2 hu;obtain ⟨a,b⟩:=h.code u k1 hk1;rw[e];exact ⟨a.frame hM (hcn u k1 hk1).1,fun g hg=>⟨(b g hg).1,Nat.lt_of_lt_of_le (b g hg).2 hM.size⟩⟩
 ·obtain ⟨k1,hk1,e⟩:=hT u k2 hu;obtain ⟨a,b⟩:=h.maps u k1 hk1;rw[e];exact ⟨a.keep hM (hcn u k1 hk1).2,b⟩
def zero8:List Int:=[0,0,0,0,0,0,0,0]
theorem tVals_pad(X:XB)(t:Nat)(c:List Instr)(p:Nat){l:List Int}(hl:l.length≤8):splice (tVals X t ⟨c,zero8,p⟩) 2 (l.map (Value.int .i64))=tVals X t ⟨c,pad 8 l,p⟩:=by
 match l,hl with
 |[],_=>rfl
 |[_],_=>rfl
 |[_,_],_=>rfl
 |[_,_,_],_=>rfl
 |[_,_,_,_],_=>rfl
 |[_,_,_,_,_],_=>rfl
 |[_,_,_,_,_,_],_=>rfl
 |[_,_,_,_,_,_,_],_=>rfl
 |[_,_,_,_,_,_,_,_],_=>rfl
 |a :: b :: c :: d :: e :: f :: g :: h :: i :: r,hl=>simp at hl
def regT(regs:List (List Int))(k:Nat)(cs:List (List Instr)):List Thr:=cs.mapIdx fun i c=>⟨c,if i<k then pad 8 (regs.getD i [])else zero8,0⟩
theorem regT_zero(regs:List (List Int))(cs:List (List Instr)):regT regs 0 cs=cs.map newThr:=by
 apply List.ext_getElem?;intro i;simp[regT,zero8];rfl
theorem regT_get{regs:List (List Int)}{k:Nat}{cs:List (List Instr)}{c:List Instr}{i:Nat}(h:cs[i]?=some c):(regT regs k cs)[i]?=some ⟨c,if i<k then pad 8 (regs.getD i [])else zero8,0⟩:=by
 simp[regT,h]
theorem regT_len(regs:List (List Int))(k:Nat)(cs:List (List Instr)):(regT regs k cs).length=cs.length:=by simp[regT]
theorem regT_succ{regs:List (List Int)}{k:Nat}{cs:List (List Instr)}{c:List Instr}{l:List Int}(h:cs[k]?=some c)(hl:regs[k]?=some l):(regT regs k cs).set k ⟨c,pad 8 l,0⟩=regT regs (k+1) cs:=by
 have hk:=(List.getElem?_eq_some_iff.1 h).1;apply List.ext_getElem?;intro i;rw[List.getElem?_set]
 by_cases e:k=i
 ·subst e;rw[if_pos rfl,if_pos (by rw[regT_len];exact hk),regT_get h,if_pos (by omega)];simp[List.getD,hl]
 ·rw[if_neg e]
  by_cases hi:i<cs.length
  ·obtain ⟨d,hd⟩:∃d,cs[i]?=some d:=⟨_,List.getElem?_eq_getElem hi⟩;rw[regT_get hd,regT_get hd]
   by_cases h1:i<k
   ·rw[if_pos h1,if_pos (by omega)]
   ·rw[if_neg h1,if_neg (by omega)]
  ·rw[List.getElem?_eq_none (by rw[regT_len];omega),List.getElem?_eq_none (by rw[regT_len];omega)]
theorem regT_done{regs:List (List Int)}{cs:List (List Instr)}:regT regs regs.length cs=cs.mapIdx fun i c=>⟨c,pad 8 (regs.getD i []),0⟩:=by
 apply List.ext_getElem?;intro i
 by_cases hi:i<cs.length
 ·obtain ⟨d,hd⟩:∃d,cs[i]?=some d:=⟨_,List.getElem?_eq_getElem hi⟩;rw[regT_get hd]
  by_cases h1:i<regs.length
  ·rw[if_pos h1];simp[hd]
  ·rw[if_neg h1]
   have:regs.getD i []=[]:=by rw[List.getD_eq_getElem?_getD,List.getElem?_eq_none (by omega)];rfl
   simp only[List.getElem?_mapIdx,hd,Option.map_some,this];rfl
 ·rw[List.getElem?_eq_none (by rw[regT_len];omega),List.getElem?_eq_none (by simp;omega)]
theorem PMach.setRegs(h:PMach w X vs mv m){t:Nat}{c:List Instr}{p:Nat}(ht:m.T[t]?=some ⟨c,zero8,p⟩){l:List Int}(hl:l.length≤8){junk:List Value}
  (hM:Mod (fun x=>x=X.bL) w w') (hg:w'.heap[X.bL]?=some (.cells (splice (flat (tVals X) 0 m.T++junk) (t*11+2) (l.map (Value.int .i64))).toArray 99 (0,0))) :
  XUp w X vs mv m w' {m with T:=m.T.set t ⟨c,pad 8 l,p⟩} vs mv:=by
 refine h.setThrG ht rfl hM ⟨junk,?_⟩;obtain ⟨A,B,hA,h1,h2⟩:=flat_cut (tVals X) 11 (tVals_len X) m.T 0 t _ ht;rw[hg,h1,h2,←hA,List.append_assoc,List.append_assoc];rw[splice_mid A _ (B++junk) _ 2 (by rw[List.length_map,tVals_len];omega),tVals_pad X _ c p hl];simp[List.append_assoc]
end
section
open Go.RowKit Qs Qh
variable {w w1 w2 w':World}{X:XB}{vs vs':List Value}{mv mv':Value}{m m':M}{N:Int}
theorem pcells_any(H:PX w X vs mv m N):Calls Tryz.prog 60 #[.pointer (some ⟨X.bX,0,none⟩)] w fun e w'=>e=.returned (.int .i64 (countL m.cells))∧Mod noF w w':=by
 obtain ⟨t0,-,-,-,-,t5⟩:=H.p.top_at;have p0:=H.p.mem.ptr;have hcall:=arenaCount H.p.mem.arena H.om.cells;have Hcall:=Lib.hid hcall;have pb:=H.p.mem.lt (x:=X.P.bM) (.inl rfl);clear H hcall
 go_enter Tryz.func60,Tryz.ntmps60
 go_wp2_with fail
 refine Hcall.out.mono ?_;rintro e w1 ⟨rfl,hm⟩;have Hm:=Lib.hid hm;clear hm;go_wp2;go_ret;exact ⟨rfl,Hm.out⟩
def MarksAt(w:World)(v:Value)(l:List (Int × Int)):Prop:=
 ∃a c,v=.slice a l.length c∧∀(i:Nat) x,l[i]?=some x→∃b off,a=some ⟨b,off,none⟩∧b<w.heap.size∧w.cell? ⟨b,off+i*2,none⟩=some (.int .i64 x.1)∧w.cell? ⟨b,off+i*2+1,none⟩=some (.int .i64 x.2)
theorem MarksAt.keep{v:Value}{l:List (Int × Int)}(h:MarksAt w v l)(hM:Mod noF w w'):MarksAt w' v l:=by
 obtain ⟨a,c,e,hx⟩:=h;refine ⟨a,c,e,fun i x hi=>?_⟩;obtain ⟨b,off,e1,hb,h0,h1⟩:=hx i x hi;exact ⟨b,off,e1,Nat.lt_of_lt_of_le hb hM.size,hM.cell h0 (fun e=>e),hM.cell h1 (fun e=>e)⟩
theorem marks_row{T:TypeId}{v:Value}{l:List (Int × Int)}(h:w.ownsRow 0 T 2 v l.length (flat markVals 0 l)):MarksAt w v l:=by
 rcases h.2 with ⟨rfl,h0⟩|⟨g,cap,cur,rfl,_,hg,h1,h2,h3,h4⟩
 ·refine ⟨none,0,by rw[h0],fun i x hx=>?_⟩;have:=(List.getElem?_eq_some_iff.1 hx).1;omega
 ·have hgt:∀(i:Nat) x,l[i]?=some x→∀j y,(markVals 0 x)[j]?=some y→w.cell? ⟨g,0+i*2+j,none⟩=some y:=fun i x hx j y hy=>by
   have hlt:j<2:=(List.getElem?_eq_some_iff.1 hy).1;have hgt:=flat_get markVals 2 (fun _ _=>rfl) hlt l 0 i x hx [];rw[List.append_nil]at hgt;rw[cell_of_heap hg,Nat.zero_add];have hi:i<l.length:=(List.getElem?_eq_some_iff.1 hx).1
   have e:cur[i*2+j]?=(cur.toList.take (l.length*2))[i*2+j]?:=by
    rw[List.getElem?_take,if_pos (by omega)];simp
   rw[e,h4,hgt];exact hy
  exact ⟨_,_,rfl,fun i x hx=>⟨g,0,rfl,lt_of_block hg,hgt i x hx 0 _ rfl,hgt i x hx 1 _ rfl⟩⟩
theorem pmarkInfo0:(Tryz.prog.info? 78).map (fun i=>(i.zero,i.size,i.bytes))=some (some (.agg #[.int .i64 0,.int .i64 0]),2,16):=by kernel_rfl
theorem mark_one(l:List (Int × Int))(s:Nat):∀u∈flat markVals s l,u.oneCell'=true:=fun u hu=>by
 induction l generalizing s with
 |nil=>simp[flat]at hu
 |cons x l ih=>
  simp only[flat,List.mem_append]at hu
  rcases hu with h|h
  ·simp[markVals,iv]at h
   rcases h with rfl|rfl <;> rfl
  ·exact ih _ h
theorem clone_marks{v:Value}{l:List (Int × Int)}(h:offRow w 78 2 v l.length (flat markVals 0 l))(hl:l.length≤500) :
  Calls Tryz.prog 73 #[v] w fun e w'=>∃v',e=.returned v'∧w'.ownsRow 0 78 2 v' l.length (flat markVals 0 l)∧Mod noF w w'∧∀g,v'.ownBlock=some g→w.heap.size≤g:=by
 have qT:∀(w:World) (a:Option Addr) (n c n' c':Nat),(binOp .eql 75 (.slice a n c) (.slice none n' c')).run Tryz.prog w=.ok (.bool a.isNone) w:=fun w a n c n' c'=>Lib.run_eql_slice_nil w _ _ a n c n' c' Tryz.underlying75;obtain ⟨i0,hi,hz0,hz1,hz2⟩:=info_parts pmarkInfo0
 have hlen:(flat markVals 0 l).length=l.length*2:=flat_length markVals 2 (fun _ _=>rfl) l 0
 rcases h.2 with ⟨rfl,h0⟩|⟨g,s,cap,cur,rfl,hg,h1,h2,h3,h4⟩
 ·obtain rfl:l=[]:=List.eq_nil_of_length_eq_zero h0
  go_enter Tryz.func73,Tryz.ntmps73
  go_wp2;go_ret;exact ⟨_,rfl,⟨rfl,.inl ⟨rfl,rfl⟩⟩,Mod.refl _ _,by simp[Value.ownBlock]⟩
 ·have hsrc:∀j u,(flat markVals 0 l)[j]?=some u→w.cell? ((⟨g,s,none⟩:Addr).add j)=some u:=fun j u hu=>by
   have hadd:(⟨g,s,none⟩:Addr).add j=⟨g,s+j,none⟩:=by unfold Addr.add;split <;> simp_all
   rw[hadd,cell_of_heap hg];rw[←h4,List.getElem?_take]at hu
   split at hu
   ·rw[List.getElem?_drop]at hu;simpa using hu
   ·cases hu
  have Hsrc:=Lib.hid hsrc;have Hlen:=Lib.hid hlen;have Hone:=Lib.hid (mark_one l 0)
  have hbnd:0+l.length≤maxLen:=by unfold maxLen;omega
  have hbnd2:(0+l.length)*16≤140737488355328:=by omega
  clear hsrc hlen h h3 h4 hg h2
  go_enter Tryz.func73,Tryz.ntmps73
  go_wp2_with (at_builtin;refine wpList_append_mine _ rfl (.tmp 5) (.tmp 6) 75 rfl 78 i0 (.agg #[.int .i64 0,.int .i64 0]) 2 16 Tryz.underlying75 hi hz0 hz1 hz2 rfl (by decide) (.slice (some ⟨w.heap.size,0,none⟩) 0 0) 0 [] rfl (World.ownsRow_made w #[] 0 (Nat.zero_le _) (by decide) rfl) ⟨g,s,none⟩ l.length cap (flat markVals 0 l) rfl Hlen.out (fun j u hj=>(Mod.refl noF w |>.alloc _).cell (Hsrc.out j u hj) (fun e=>e)) Hone.out hbnd hbnd2 ?_;intro v2 w2 hown2 hgr2 hfr2 hz2';have hm2:Mod noF w w2:=((Mod.refl noF w).alloc (.cells #[] 78)).grown hgr2 (fun k hk hlt=>by simp[Value.ownBlock]at hk;omega);have Hm2:=Lib.hid hm2;have Hown2:=Lib.hid hown2;have Hfr2:=Lib.hid hfr2;clear hm2 hown2 hgr2 hfr2 hz2')
  go_ret;refine ⟨_,rfl,?_,Hm2.out,fun k hk=>?_⟩
  ·have:=Hown2.out
   rwa [Nat.zero_add,List.nil_append]at this
  ·rcases Hfr2.out k hk with e|e
   ·simp[Value.ownBlock]at e;omega
   ·simp at e;omega
theorem pmarks_any(H:PX w X vs mv m N):Calls Tryz.prog 31 #[.pointer (some ⟨X.bX,0,none⟩)] w fun e w'=>∃v',e=.returned v'∧MarksAt w' v' m.marks∧Mod noF w w':=by
 obtain ⟨-,-,t2,-,-,t5⟩:=H.p.top_at;have hcall:=clone_marks H.p.marks H.ot.marks;obtain ⟨sa,sc,rfl,-,-⟩:=H.p.marks.slice;have Hcall:=Lib.hid hcall;clear H hcall
 go_enter Tryz.func31,Tryz.ntmps31
 go_wp2_with fail
 refine Hcall.out.mono ?_;rintro e w1 ⟨v',rfl,hr,hm,-⟩;have hv:=marks_row hr;obtain ⟨va,vc,rfl,-⟩:=id hv;have Hm:=Lib.hid hm;have Hv:=Lib.hid hv;clear hm hr hv;go_wp2;go_ret;exact ⟨_,rfl,Hv.out,Hm.out⟩
end
section
open Go.RowKit Qs Qh
def ErrIs(a:Nat→Addr)(w:World)(v:Value)(c p:Int):Prop:=
 (c=0∧p = -1∧v=.nilIface)∨(∃i:Nat,i<9∧c=(i:Int)+1∧p = -1∧v=errV a i)∨
  ∃i pb:Nat,i<9∧c=(i:Int)+1∧v=.iface 89 (.pointer (some ⟨pb,0,none⟩))∧pb<w.heap.size∧w.cell? ⟨pb,0,none⟩=some (.int .i64 p)∧w.cell? ⟨pb,1,none⟩=some (errV a i)
variable {a:Nat→Addr}{w w':World}{v:Value}{c p:Int}
theorem ErrIs.keep(h:ErrIs a w v c p){F:Nat→Prop}(hM:Mod F w w')(hF:∀b,b<w.heap.size→¬F b):ErrIs a w' v c p:=by
 rcases h with h|h|⟨i,pb,h1,h2,h3,h4,h5,h6⟩
 ·exact .inl h
 ·exact .inr (.inl h)
 ·exact .inr (.inr ⟨i,pb,h1,h2,h3,Nat.lt_of_lt_of_le h4 hM.size,hM.cell h5 (hF pb h4),hM.cell h6 (hF pb h4)⟩)
theorem code_any(E:ErrsAt w a)(h:ErrIs a w v c p):Calls Tryz.prog 45 #[v] w fun e w'=>e=.returned (.tuple #[.int .i64 c,.int .i64 p])∧Mod noF w w':=by
 rcases h with ⟨rfl,rfl,rfl⟩|⟨i,h1,rfl,rfl,rfl⟩|⟨i,pb,h1,rfl,rfl,h4,h5,h6⟩
 ·exact (code_nil w).mono fun e w' h=>⟨h.1,h.2 ▸ Mod.refl _ _⟩
 ·exact code_at E i h1
 ·exact code_fault E i h1 pb p h5 h6
def faultB(c p c' p':Int):Bool:=decide (c=c')&&(decide (c=0)||decide (p=p'))
theorem faultB_self(c p:Int):faultB c p c p=true:=by simp[faultB]
end
section
open Go.RowKit Qs Qh
variable {a:Nat→Addr}{w w':World}{v:Value}{c p:Int}
theorem faulted_any(E:ErrsAt w a)(h:ErrIs a w v c p)(c' p':Int):Calls Tryz.prog 22 #[v,.agg #[.int .i64 c',.int .i64 p']] w fun e w'=>e=.returned (.bool (faultB c p c' p'))∧Mod noF w w':=by
 have hq:=(Mod.refl noF w).alloc (.cells #[.int .i64 c',.int .i64 p'] 56);have Hc:=Lib.hid (code_any (E.keep hq) (h.keep hq (fun _ _ e=>e)))
 have f0:(w.alloc (.cells #[.int .i64 c',.int .i64 p'] 56)).cell? ⟨w.heap.size,0,none⟩=some (.int .i64 c'):=by simp
 have f1:(w.alloc (.cells #[.int .i64 c',.int .i64 p'] 56)).cell? ⟨w.heap.size,1,none⟩=some (.int .i64 p'):=by simp
 have Hf0:=Lib.hid f0;have Hf1:=Lib.hid f1;clear E h hq f0 f1;unfold faultB
 by_cases h1:c=c'
 ·subst h1
  by_cases h2:c=0
  ·subst h2
   go_enter Tryz.func22,Tryz.ntmps22
   go_wp2_with fail
   refine Hc.out.mono ?_;rintro e w1 ⟨rfl,hm⟩;have g0:=hm.cell Hf0.out (fun e=>e);have g1:=hm.cell Hf1.out (fun e=>e);have Hm:=Lib.hid hm;clear hm;go_wp2;go_ret;exact ⟨rfl,((Mod.refl noF w).alloc _).trans0 Hm.out⟩
  ·have d2:(c==0)=false:=by simpa using h2
   have d3:decide (c=0)=false:=by simpa using h2
   by_cases h3:p=p'
   ·subst h3;rw[d3]
    go_enter Tryz.func22,Tryz.ntmps22
    go_wp2_with fail
    refine Hc.out.mono ?_;rintro e w1 ⟨rfl,hm⟩;have g0:=hm.cell Hf0.out (fun e=>e);have g1:=hm.cell Hf1.out (fun e=>e);have Hm:=Lib.hid hm;clear hm;go_wp2;go_ret;exact ⟨by simp,((Mod.refl noF w).alloc _).trans0 Hm.out⟩
   ·have d4:(p==p')=false:=by simpa using h3
    have d5:decide (p=p')=false:=by simpa using h3
    rw[d3,d5]
    go_enter Tryz.func22,Tryz.ntmps22
    go_wp2_with fail
    refine Hc.out.mono ?_;rintro e w1 ⟨rfl,hm⟩;have g0:=hm.cell Hf0.out (fun e=>e);have g1:=hm.cell Hf1.out (fun e=>e);have Hm:=Lib.hid hm;clear hm;go_wp2;go_ret;exact ⟨by simp,((Mod.refl noF w).alloc _).trans0 Hm.out⟩
 ·have d1:(c==c')=false:=by simpa using h1
  have d5:decide (c=c')=false:=by simpa using h1
  rw[d5]
  go_enter Tryz.func22,Tryz.ntmps22
  go_wp2_with fail
  refine Hc.out.mono ?_;rintro e w1 ⟨rfl,hm⟩;have g0:=hm.cell Hf0.out (fun e=>e);have g1:=hm.cell Hf1.out (fun e=>e);have Hm:=Lib.hid hm;clear hm;go_wp2;go_ret;exact ⟨by simp,((Mod.refl noF w).alloc _).trans0 Hm.out⟩
end
section
open Go.RowKit Qs Qh
def ScriptIn(w:World)(v:Value)(l:List Int):Prop:=
 (v=.slice none 0 0∧l=[])∨∃a c,v=.slice (some a) l.length c∧IntsAt w v l
theorem ScriptIn.keep{w w':World}{v:Value}{l:List Int}(h:ScriptIn w v l)(hM:Mod noF w w'):ScriptIn w' v l:=by
 rcases h with h|⟨a,c,e,h⟩
 ·exact .inl h
 ·exact .inr ⟨a,c,e,h.frame0 hM⟩
theorem scrInfo:(Tryz.prog.info? 3).map (fun i=>(i.zero,i.size,i.bytes))=some (some (.int .i64 0),1,8):=by kernel_rfl
theorem scr_ints{w:World}{v:Value}{l:List Int}(h:w.ownsRow 0 3 1 v l.length (l.map (Value.int .i64))):IntsAt w v l∧∃a n c,v=.slice a n c∧n≤c:=by
 rcases h.2 with ⟨rfl,h0⟩|⟨g,cap,cur,rfl,_,hg,h1,h2,h3,h4⟩
 ·exact ⟨⟨none,0,by rw[h0],by omega,fun i y hi=>by have:=(List.getElem?_eq_some_iff.1 hi).1;omega⟩,_,_,_,rfl,Nat.le_refl _⟩
 ·refine ⟨⟨_,cap,rfl,Nat.le_trans h1 h2,fun i y hi=>⟨g,0,rfl,lt_of_block hg,?_⟩⟩,_,_,_,rfl,h1⟩;have hlt:=(List.getElem?_eq_some_iff.1 hi).1;rw[cell_of_heap hg,Nat.zero_add]
  have e:cur[i]?=(cur.toList.take (l.length*1))[i]?:=by
   rw[List.getElem?_take,if_pos (by omega)];simp
  rw[e,h4,List.getElem?_map,hi];rfl
structure ScrAt(w w':World)(v:Value)(l:List Int):Prop where
 ints:IntsAt w' v l
 le:∀a n c,v=.slice a n c→n≤c
 mod:Mod noF w w'
 own:∀g,v.ownBlock=some g→w.heap.size≤g
theorem wpList_append_script{w:World}{ops:Array Oper}{rest:List Oper}{o:Oper}{a:Act}{Q:Exit→Act→World→Prop}(hgd:o.guard=none)(s x:Operand)
  (ho:o.op=.call {callee:=.builtin .append,args:=#[s,x],argTypes:=#[26,26]})
  (hs:a.eval s=.slice none 0 0) (sw:Value) (l:List Int) (hx:a.eval x=sw) (H:ScriptIn w sw l) (hl:l.length≤1000000)
  (h:∀v' w',ScrAt w w' v' l→wpList Tryz.prog ops Q rest (a.put o.dst v') w'):wpList Tryz.prog ops Q (o :: rest) a w:=by
 obtain ⟨i0,hti,hz0,hz1,hz2⟩:=info_parts scrInfo
 rcases H with ⟨rfl,rfl⟩|⟨ad,c,rfl,hI⟩
 ·refine wpList_plain hgd fun _ hK=>?_;have hrun:=run_append_owned_none (P:=Tryz.prog) (w:=w) 0 26 o.type 3 i0 1 Tryz.underlying26 hti (.slice none 0 0) 0 [] (World.ownsRow_nil w 0 3 1)
  have hk:=hK _ _ (h (.slice none 0 0) w ⟨⟨none,0,rfl,by simp,fun i x h=>by simp at h⟩,fun _ _ _ e=>by cases e;exact Nat.le_refl _,Mod.refl _ _,fun g hg=>by simp[Value.ownBlock]at hg⟩);unfold Oper.wp;simp[execOp,ho,resolve,invoke,builtin,hs,hx,hrun,Result.andThen];exact hk
 ·obtain ⟨_,_,e,hmx,hc⟩:=hI.at_;cases e
  have hcells:∀j u,(l.map (Value.int .i64))[j]?=some u→w.cell? (ad.add j)=some u:=fun j u hu=>by
   rw[List.getElem?_map]at hu;obtain ⟨y,hy,rfl⟩:=Option.map_eq_some_iff.1 hu;obtain ⟨b,off,e,-,hcell⟩:=hc j y hy;cases e
   have hadd:(⟨b,off,none⟩:Addr).add j=⟨b,off+j,none⟩:=by unfold Addr.add;split <;> simp_all
   rw[hadd];exact hcell
  refine wpList_append_mine w hgd s x 26 ho 3 i0 (.int .i64 0) 1 8 Tryz.underlying26 hti hz0 hz1 hz2 rfl (by decide) (.slice none 0 0) 0 [] hs (World.ownsRow_nil w 0 3 1) ad l.length c (l.map (Value.int .i64)) hx (by rw[List.length_map,Nat.mul_one]) hcells (Qh.ints_one l) (by unfold maxLen;omega) (by omega) ?_
  intro v' w' hown hgr hfr _;rw[Nat.zero_add,List.nil_append]at hown;obtain ⟨h1,h2⟩:=scr_ints hown;refine h v' w' ⟨h1,fun a n c e=>?_,(Mod.refl noF w).grown hgr (fun k hk _=>by simp[Value.ownBlock]at hk),fun g hg=>(hfr g hg).elim (fun e=>by simp[Value.ownBlock]at e) id⟩;obtain ⟨a',n',c',e',hle⟩:=h2
  rw[e']at e;cases e;exact hle
end
end Go.Proofs.YtciaficoeajeaaaGreatDoor
