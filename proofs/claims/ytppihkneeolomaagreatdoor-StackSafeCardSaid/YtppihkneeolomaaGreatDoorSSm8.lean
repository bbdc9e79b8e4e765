/- Texts that belong together, joined. -/
import Derived.Test.YtppihkneeolomaaGreatDoorSSNames
import Derived.Test.YtppihkneeolomaaGreatDoorSSm3
import Derived.Test.YtppihkneeolomaaGreatDoorSSm2
import Derived.StillTailTactics
import Derived.Test.YtppihkneeolomaaGreatDoorSSStore
import Derived.LoopTactic
import Derived.Test.YtppihkneeolomaaGreatDoorSSm7
import Derived.Test.YtppihkneeolomaaGreatDoorSSm6
import Derived.Test.YtppihkneeolomaaGreatDoorSSm1
import Derived.Test.YtppihkneeolomaaGreatDoorSSm5
import Derived.Outline
set_option linter.unusedVariables false
set_option linter.unusedSimpArgs false
set_option linter.unusedSectionVars false
set_option maxHeartbeats 16000000
set_option maxRecDepth 100000
namespace Go.Proofs.YtppihkneeolomaaGreatDoor
section
open Go.RowKit Qs Qh
variable {w:World}{L:Lay}{m:M}{N:Int}
theorem code_cell(X:Mach ty w L m N){t:Nat}{h:Thr}(ht:m.T[t]?=some h){x:Instr}(hx:h.code[h.pc]?=some x) :
  ∃b off c,L.code t=.slice (some ⟨b,off,none⟩) h.code.length c∧b<w.heap.size∧(∀j y,(instrVals x)[j]?=some y→w.cell? ⟨b,off+h.pc*5+j,none⟩=some y):=by
 obtain ⟨hc,_⟩:=X.codes t h ht;obtain ⟨a,c,e,_,hi⟩:=hc.at_;obtain ⟨b,off,rfl,hb,hcell⟩:=hi h.pc x hx;exact ⟨b,off,c,e,hb,hcell⟩
theorem code_slice(X:Mach ty w L m N){t:Nat}{h:Thr}(ht:m.T[t]?=some h):∃a c,L.code t=.slice a h.code.length c:=by
 obtain ⟨hc,_⟩:=X.codes t h ht;obtain ⟨a,c,e,_⟩:=hc.at_;exact ⟨a,c,e⟩
theorem label_callQ(X:Mach ty w L m N){t:Nat}{h:Thr}(hh:m.T[t]?=some h)(hlt:h.pc<h.code.length){a:Option Addr}{c:Nat}(e:L.code t=.slice a h.code.length c){to:List UInt8}{dto:ByteArray}(hd:(⟨to.toArray⟩:ByteArray)=dto){i:Nat}(hi:labelAt to h.code 0=some i)(W:World)
  (hq:Mod noF (w.setCell ⟨L.blk 4 0,t*3+2,none⟩ (.int .i64 ((h.pc:Int)+1))) W) :
  Calls Tryz.prog 82 #[.slice a h.code.length c,.string dto] W fun e w'=>e=.returned (.int .i64 (i:Int))∧w'=W:=by
 subst hd;have U:=((X.setPc hh (h.pc+1) (by omega))).then0 hq
 have hlen:h.code.length≤1000000:=by have:=(X.ot.code t h hh).2.len;omega
 have hT:(m.setPc t (h.pc+1)).T[t]?=some {h with pc:=h.pc+1}:=by
  have hl:t<m.T.length:=(List.getElem?_eq_some_iff.1 hh).1;unfold M.setPc;rw[modify_get _ hh];simp[hl]
 obtain ⟨a',c',e',_,hx⟩:=(U.mach.codes t _ hT).1.at_;rw[e]at e';cases e';refine (labelAt_any a c h.code to W hlen hx).mono fun e w' ⟨h1,h2⟩=>⟨?_,h2.symm⟩;rw[h1];unfold labE;rw[hi]
theorem done_any(X:Mach ty w L m N)(t:Nat)(ht:t<m.T.length) :
  Calls Tryz.prog 56 #[.pointer (some ⟨L.blk 0 0,0,none⟩),.int .i64 t] w fun e w'=>e=.returned (.bool (m.done t))∧Mod noF w w':=by
 obtain ⟨h,hh⟩:∃h,m.T[t]?=some h:=⟨_,List.getElem?_eq_getElem ht⟩
 have hthr:m.thr t=h:=by simp[M.thr,List.getD,hh]
 obtain ⟨t0,t1,t2,t3,t4,t5⟩:=X.top;obtain ⟨r0,r1,r2,r3,r4⟩:=X.thr_at hh;obtain ⟨hpc,hco⟩:=X.ot.code t h hh;have hlen:=hco.len
 have ht6:m.T.length≤6:=by have:=X.om.waits;have:=X.ot.len;omega
 have hsp:=X.olt.sp4
 have hdone:m.done t=(match h.code[h.pc]? with|none=>true|some x=>x.op==20):=by unfold M.done;rw[hthr];cases h.code[h.pc]? <;> rfl
 have d0:decide ((t:Int)<0)=false:=by simp
 have d1:decide ((m.T.length:Int)≤(t:Int))=false:=by simp;omega
 cases hx:h.code[h.pc]? with
 |none=>
  rw[hx]at hdone;obtain ⟨a,c,e⟩:=code_slice X hh;rw[e]at r0
  have hge:h.code.length≤h.pc:=by
   rcases Nat.lt_or_ge h.pc h.code.length with h'|h'
   ·rw[List.getElem?_eq_getElem h']at hx;cases hx
   ·exact h'
  have d2:decide ((h.code.length:Int)≤(h.pc:Int))=true:=by simp;omega
  have Hdone:=Lib.hid hdone;have Hh:=Lib.hid hh;clear hdone hthr hx X e hh t4 r3 hco
  go_enter Tryz.func56,Tryz.ntmps56
  go_wp2
  go_quiet (fail)
  go_wp2;go_ret;exact ⟨ret_bool (by rw[Hdone.out]),(Mod.refl _ _).drewN _⟩
 |some x=>
  rw[hx]at hdone;obtain ⟨b,off,c,e,hb,hcell⟩:=code_cell X hh hx;rw[e]at r0;have hlt:h.pc<h.code.length:=(List.getElem?_eq_some_iff.1 hx).1
  have d2:decide ((h.code.length:Int)≤(h.pc:Int))=false:=by simp;omega
  have hmem:x∈h.code:=List.mem_of_getElem? hx;have hle:=insOk_le (hco.ins x hmem);have c0:=hcell 0 _ rfl;simp only[Nat.add_zero]at c0
  have hst:((opStr x.op).toList==[115,116,111,112])=(x.op==20):=by
   rw[Bool.eq_iff_iff,beq_iff_eq,beq_iff_eq];exact opStr_stop hle
  generalize hs:opStr x.op=s at *;have Hs:=Lib.hid hs;have Hdone:=Lib.hid hdone;have Hst:=Lib.hid hst;clear hdone hthr hx X e hh t4 r3 hco hcell hs hmem hst
  go_enter Tryz.func56,Tryz.ntmps56
  go_wp2
  go_quiet (fail)
  go_wp2;go_ret;exact ⟨ret_bool (by rw[Hdone.out,←Hst.out,show decide (h.code.length≤h.pc)=false from decide_eq_false (by omega)];rfl),(Mod.refl _ _).drewN _⟩
end
section
open Go.RowKit Qs Qh
variable {w:World}{L:Lay}{m:M}{N:Int}
theorem fence_eq(m:M)(t:Nat){l:List Wt}(hl:m.waits[t]?=some l):m.fence t = {m with cells:=(drainAll m.cells l).1,waits:=m.waits.set t [],faults:=m.faults+((drainAll m.cells l).2:Nat)}:=by
 unfold M.fence
 have:m.waitsOf t=l:=by simp[M.waitsOf,List.getD,hl]
 rw[this]
theorem machFence_ext(X:Mach ty w L m N)(hN:N≤100000000000)(t:Nat)(ht:t<m.T.length) :
  Calls Tryz.prog 106 #[.pointer (some ⟨L.blk 0 0,0,none⟩),.int .i64 t] w fun e w'=>e=.returned (.tuple #[])∧∃L',MUp ty w L m w' L' (m.fence t) (N+8)∧Ext L L':=by
 obtain ⟨l,hl⟩:∃l,m.waits[t]?=some l:=⟨_,List.getElem?_eq_getElem (by rw[X.ot.len];exact ht)⟩;obtain ⟨t0,t1,t2,t3,t4,t5⟩:=X.top;have t43:=t4 3;have hf:=X.ot.f0;have hl8:=X.om.wlen t l hl;have hcount:=drainAll_le l m.cells;generalize hnf:(drainAll m.cells l).2=nf at *
 have hnf8:nf≤8:=by omega
 have hcall:=memFence_any (w:=w.drew) (X.rep.frame0 (Mod.refl _ _).drew) rfl rfl rfl rfl rfl X.om X.ol (by omega) t hl;rw[hnf]at hcall;have Hcall:=Lib.hid hcall;have HX:=Lib.hid X;have Hl:=Lib.hid hl;have Hnf:=Lib.hid hnf;clear X hl hcall hnf hcount t4
 go_enter Tryz.func106,Tryz.ntmps106
 have hval:=HX.out.om.wval t l Hl.out;have om5:OkM N {m with cells:=(drainAll m.cells l).1,waits:=m.waits.set t []}:=(drainAll_ok l HX.out.om (fun x hx=>(hval x hx).1)).setWaits (by simp) (fun x hx=>by cases hx);have Hom5:=Lib.hid om5;clear om5 hval
 go_region_with (go_at_call 120;refine Hcall.out.mono ?_;rintro e w5 ⟨rfl,L5,hU5⟩;have U5:=(HX.out.frame0 (Mod.refl _ _).drew).up (Int.le_refl N) hU5 Hom5.out rfl rfl rfl (by simp);obtain ⟨x0,x1,x2,x3,x4,x5⟩:=U5.mach.top;have x43:=x4 3;have E0:=U5.top.1;have E1:=U5.top.2;rw[E0]at x0 x3 x43 x5;clear x1 x2 x4;have HE0:=Lib.hid E0;have HU5:=Lib.hid U5;have HE:=Lib.hid hU5.ext;clear E0 E1 hU5 U5)
 all_goals
  refine bodyPost_end (results_none rfl _ _ _) rfl ⟨rfl,L5,?_,HE.out⟩;rw[fence_eq m t Hl.out,Hnf.out];have V:=(MUp.quiet HX.out (Mod.refl _ _).drew).trans (HU5.out.trans (HU5.out.mach.setFaults (N':=N+8) (m.faults+(nf:Int)) (by omega) (by omega) (by omega)));rw[HE0.out]at V
  rw[show IntKind.i64.wrap (m.faults+(nf:Int))=m.faults+(nf:Int)from IntWalk.i64_in _ (by omega)];exact V
theorem machFence_any(X:Mach ty w L m N)(hN:N≤100000000000)(t:Nat)(ht:t<m.T.length) :
  Calls Tryz.prog 106 #[.pointer (some ⟨L.blk 0 0,0,none⟩),.int .i64 t] w fun e w'=>e=.returned (.tuple #[])∧∃L',MUp ty w L m w' L' (m.fence t) (N+8):=
 (machFence_ext X hN t ht).mono fun _ _ ⟨h,L',h1,_⟩=>⟨h,L',h1⟩
end
section
open Go.RowKit Qs Qh
variable {w:World}{L:Lay}{m:M}{N:Int}
theorem step_fence(X:Mach ty w L m N)(hN:N≤10000000000)(t:Nat)(ht:t<m.T.length){h:Thr}(hh:m.T[t]?=some h){a b c:Nat}{A B C:Int}{to:List UInt8}(hx:h.code[h.pc]?=some ⟨12,A,B,C,to⟩) :
  Calls Tryz.prog 83 #[.pointer (some ⟨L.blk 0 0,0,none⟩),.int .i64 t] w fun e w'=>e=.returned (.int .i64 0)∧∃L',MUp ty w L m w' L' ((m.setPc t (h.pc+1)).fence t) (N+8):=by
 have hthr:m.thr t=h:=by simp[M.thr,List.getD,hh]
 have hdone:m.done t=false:=by unfold M.done;rw[hthr,hx];rfl
 obtain ⟨t0,t1,t2,t3,t4,t5⟩:=X.top
 have ht6:m.T.length≤6:=by have:=X.om.waits;have:=X.ot.len;omega
 have hsp:=X.olt.sp4;have hsp8:=X.olt.sp8 t ht
 have d0:decide ((t:Int)<0)=false:=by simp
 have d1:decide ((m.T.length:Int)≤(t:Int))=false:=by simp;omega
 have HX:=Lib.hid X;have Hh:=Lib.hid hh;have Hx:=Lib.hid hx;have Hthr:=Lib.hid hthr;have Hdone:=Lib.hid hdone;clear X hh hx hthr hdone t4
 go_enter Tryz.func83,Tryz.ntmps83
 go_wp2_with fail
 refine (done_any HX.out t ht).mono ?_;rintro e w1 ⟨rfl,hm⟩;rw[Hdone.out];have X1:=HX.out.frame0 hm;have HX1:=Lib.hid X1;have Hm:=Lib.hid hm;clear t0 t1 t2 t3 t5;obtain ⟨t0,t1,t2,t3,t4,t5⟩:=X1.top;obtain ⟨r0,r1,r2,r3,r4⟩:=X1.thr_at Hh.out;obtain ⟨cb,off,cc,e,hcb,hcell⟩:=code_cell X1 Hh.out Hx.out
 rw[e]at r0;obtain ⟨hpc,hco⟩:=X1.ot.code t h Hh.out;have hlen:=hco.len;have hlt:h.pc<h.code.length:=(List.getElem?_eq_some_iff.1 Hx.out).1;have c0:=hcell 0 _ rfl;have c1:=hcell 1 _ rfl;have c2:=hcell 2 _ rfl;have c3:=hcell 3 _ rfl;have c4:=hcell 4 _ rfl
 simp only[Nat.add_zero,opStr,iv,sv]at c0 c1 c2 c3 c4;generalize hd4:(⟨to.toArray⟩:ByteArray)=dto at *;have Hd4:=Lib.hid hd4;have f4:=r3 (t*3+2);have n48:L.blk 4 0≠L.blk 8 t:=X1.ne (by rw[obj4 ty m X1.olt.n4];rfl) (by rw[obj8 ty (X1.olt.n8 t ht) Hh.out];rfl) (by omega)
 have n04:L.blk 0 0≠L.blk 4 0:=X1.ne rfl (by rw[obj4 ty m X1.olt.n4];rfl) (by omega);have n08:L.blk 0 0≠L.blk 8 t:=X1.ne rfl (by rw[obj8 ty (X1.olt.n8 t ht) Hh.out];rfl) (by omega);have He:=Lib.hid e;clear hm X1 e hpc hco hcell t4 r3 hd4;go_wp2
 go_region
 go_wp2_with fail
 have U0:=MUp.then0 ((MUp.quiet HX.out Hm.out).trans (HX1.out.pc Hh.out hlt)) (w3:=((w1.setCell ⟨L.blk 4 0,t*3+2,none⟩ (.int .i64 ((h.pc:Int)+1))).alloc (.cells #[.string ⟨#[102,101,110,99,101]⟩,.int .i64 A,.int .i64 B,.int .i64 C,.string dto] 143)).drew) (by repeat (first|exact Mod.refl _ _|refine Mod.drew ?_|refine Mod.drewN ?_ _|refine Mod.alloc ?_ _))
 have HU0:=Lib.hid U0;clear U0;refine (machFence_any HU0.out.mach (by omega) t (by simpa[M.setPc]using ht)).mono ?_;rintro e w5 ⟨rfl,L5,hU5⟩;go_wp2;go_ret;exact ⟨rfl,L5,HU0.out.trans hU5⟩
end
section
open Go.RowKit Qs Qh
variable {w:World}{L:Lay}{m:M}{N:Int}
theorem step_store_none(X:Mach ty w L m N)(hN:N≤10000000000)(t:Nat)(ht:t<m.T.length){h:Thr}(hh:m.T[t]?=some h){a b c:Nat}{A B C:Int}{to:List UInt8}(hx:h.code[h.pc]?=some ⟨7,a,b,C,to⟩)(ha:a<8)(hb:b<8)(hn:m.names (h.regs.getD a 0)=none) :
  Calls Tryz.prog 83 #[.pointer (some ⟨L.blk 0 0,0,none⟩),.int .i64 t] w fun e w'=>e=.returned (.int .i64 0)∧∃L',MUp ty w L m w' L' ((m.setPc t (h.pc+1)).fault) (N+1):=by
 have hthr:m.thr t=h:=by simp[M.thr,List.getD,hh]
 have hdone:m.done t=false:=by unfold M.done;rw[hthr,hx];rfl
 obtain ⟨t0,t1,t2,t3,t4,t5⟩:=X.top
 have ht6:m.T.length≤6:=by have:=X.om.waits;have:=X.ot.len;omega
 have hsp:=X.olt.sp4;have hsp8:=X.olt.sp8 t ht
 have d0:decide ((t:Int)<0)=false:=by simp
 have d1:decide ((m.T.length:Int)≤(t:Int))=false:=by simp;omega
 have HX:=Lib.hid X;have Hh:=Lib.hid hh;have Hx:=Lib.hid hx;have Hthr:=Lib.hid hthr;have Hdone:=Lib.hid hdone;clear X hh hx hthr hdone t4;have Hn:=Lib.hid hn;clear hn
 go_enter Tryz.func83,Tryz.ntmps83
 go_wp2_with fail
 refine (done_any HX.out t ht).mono ?_;rintro e w1 ⟨rfl,hm⟩;rw[Hdone.out];have X1:=HX.out.frame0 hm;have HX1:=Lib.hid X1;have Hm:=Lib.hid hm;clear t0 t1 t2 t3 t5;obtain ⟨t0,t1,t2,t3,t4,t5⟩:=X1.top;obtain ⟨r0,r1,r2,r3,r4⟩:=X1.thr_at Hh.out;obtain ⟨cb,off,cc,e,hcb,hcell⟩:=code_cell X1 Hh.out Hx.out
 rw[e]at r0;obtain ⟨hpc,hco⟩:=X1.ot.code t h Hh.out;have hlen:=hco.len;have hlt:h.pc<h.code.length:=(List.getElem?_eq_some_iff.1 Hx.out).1;have c0:=hcell 0 _ rfl;have c1:=hcell 1 _ rfl;have c2:=hcell 2 _ rfl;have c3:=hcell 3 _ rfl;have c4:=hcell 4 _ rfl
 simp only[Nat.add_zero,opStr,iv,sv]at c0 c1 c2 c3 c4;generalize hd4:(⟨to.toArray⟩:ByteArray)=dto at *;have Hd4:=Lib.hid hd4;obtain ⟨ga0,ga1,ga2⟩:=X1.reg_at Hh.out ha;have wa:=X1.regWord Hh.out ha;generalize hva:h.regs.getD a 0=va at *;obtain ⟨wa0,wa1⟩:=of_isWord wa;have Hva:=Lib.hid hva
 have Hwa:=Lib.hid wa;clear hva wa;obtain ⟨gb0,gb1,gb2⟩:=X1.reg_at Hh.out hb;have wb:=X1.regWord Hh.out hb;generalize hvb:h.regs.getD b 0=vb at *;obtain ⟨wb0,wb1⟩:=of_isWord wb;have Hvb:=Lib.hid hvb;have Hwb:=Lib.hid wb;clear hvb wb;have f4:=r3 (t*3+2)
 have n48:L.blk 4 0≠L.blk 8 t:=X1.ne (by rw[obj4 ty m X1.olt.n4];rfl) (by rw[obj8 ty (X1.olt.n8 t ht) Hh.out];rfl) (by omega);have n04:L.blk 0 0≠L.blk 4 0:=X1.ne rfl (by rw[obj4 ty m X1.olt.n4];rfl) (by omega)
 have n08:L.blk 0 0≠L.blk 8 t:=X1.ne rfl (by rw[obj8 ty (X1.olt.n8 t ht) Hh.out];rfl) (by omega);have He:=Lib.hid e;clear hm X1 e hpc hco hcell t4 r3 hd4
 have iA:(a:Int)<8:=by omega
 have iB:(b:Int)<8:=by omega
 have iA0:(0:Int)≤(a:Int):=by omega
 have iB0:(0:Int)≤(b:Int):=by omega
 go_wp2
 go_region
 have U0:=MUp.then0 ((MUp.quiet HX.out Hm.out).trans (HX1.out.pc Hh.out hlt)) (w3:=((w1.setCell ⟨L.blk 4 0,t*3+2,none⟩ (.int .i64 ((h.pc:Int)+1))).alloc (.cells #[.string ⟨#[115,116,111,114,101]⟩,.int .i64 a,.int .i64 b,.int .i64 C,.string dto] 143)).drew) (by repeat (first|exact Mod.refl _ _|refine Mod.drew ?_|refine Mod.drewN ?_ _|refine Mod.alloc ?_ _))
 have hbx:∀k,Foot ty allK L (m.setPc t (h.pc+1)) k→k<w1.heap.size:=fun k hk=>by
  have:=(HX1.out.pc Hh.out hlt).mach.rep.lt hk
  simpa using this
 have HU0:=Lib.hid U0;have Hbx:=Lib.hid hbx;clear U0 hbx
 go_wp2_with fail
 refine (names_none HU0.out.mach (by omega) va Hwa.out Hn.out).mono ?_;rintro e w5 ⟨rc,rg,rfl,U5⟩;have X5:=U5.mach;have w5b0:w5.cell? ⟨w1.heap.size,0,none⟩=some (.string ⟨#[115,116,111,114,101]⟩):=U5.mod.cell (by rw[box_cell];rfl) (fun hf=>by have:=Hbx.out _ hf;simp at this)
 have w5b1:w5.cell? ⟨w1.heap.size,1,none⟩=some (.int .i64 a):=U5.mod.cell (by rw[box_cell];rfl) (fun hf=>by have:=Hbx.out _ hf;simp at this);have w5b2:w5.cell? ⟨w1.heap.size,2,none⟩=some (.int .i64 b):=U5.mod.cell (by rw[box_cell];rfl) (fun hf=>by have:=Hbx.out _ hf;simp at this)
 have w5b3:w5.cell? ⟨w1.heap.size,3,none⟩=some (.int .i64 C):=U5.mod.cell (by rw[box_cell];rfl) (fun hf=>by have:=Hbx.out _ hf;simp at this);have w5b4:w5.cell? ⟨w1.heap.size,4,none⟩=some (.string dto):=U5.mod.cell (by rw[box_cell];rfl) (fun hf=>by have:=Hbx.out _ hf;simp at this)
 obtain ⟨pt0,pt1,pt2,pt3,pt4,pt5⟩:=X5.top;obtain ⟨pr0,pr1,pr2,pr3,pr4⟩:=X5.thr_at (setPc_T Hh.out _);obtain ⟨pga0,pga1,pga2⟩:=X5.reg_at (setPc_T Hh.out _) ha;obtain ⟨pgb0,pgb1,pgb2⟩:=X5.reg_at (setPc_T Hh.out _) hb
 have hs5:w1.heap.size<w5.heap.size:=by have:=U5.mod.size;simp at this;omega
 have HX5:=Lib.hid X5;have HU5:=Lib.hid U5;clear X5 U5 pt4 pr3 pt1 pt2 pt3 t0 t1 t2 t3 r0 r1 r2 c0 c1 c2 c3 c4 ga0 ga1 gb0 gb1;go_wp2;go_ret;refine ⟨rfl,L,?_⟩;exact MUp.then0 (HU0.out.trans HU5.out) (by repeat (first|exact Mod.refl _ _|refine Mod.drew ?_|refine Mod.drewN ?_ _|refine Mod.alloc ?_ _))
end
section
open Go.RowKit Qs Qh
variable {w:World}{L:Lay}{m:M}{N:Int}
theorem step_force(X:Mach ty w L m N)(hN:N≤10000000000)(t:Nat)(ht:t<m.T.length){h:Thr}(hh:m.T[t]?=some h){a b c:Nat}{A B C:Int}{to:List UInt8}(hx:h.code[h.pc]?=some ⟨13,A,B,C,to⟩) :
  Calls Tryz.prog 83 #[.pointer (some ⟨L.blk 0 0,0,none⟩),.int .i64 t] w fun e w'=>e=.returned (.int .i64 0)∧∃L',MUp ty w L m w' L' ((m.setPc t (h.pc+1)).force m.T.length) (N+48):=by
 have hthr:m.thr t=h:=by simp[M.thr,List.getD,hh]
 have hdone:m.done t=false:=by unfold M.done;rw[hthr,hx];rfl
 obtain ⟨t0,t1,t2,t3,t4,t5⟩:=X.top
 have ht6:m.T.length≤6:=by have:=X.om.waits;have:=X.ot.len;omega
 have hsp:=X.olt.sp4;have hsp8:=X.olt.sp8 t ht
 have d0:decide ((t:Int)<0)=false:=by simp
 have d1:decide ((m.T.length:Int)≤(t:Int))=false:=by simp;omega
 have HX:=Lib.hid X;have Hh:=Lib.hid hh;have Hx:=Lib.hid hx;have Hthr:=Lib.hid hthr;have Hdone:=Lib.hid hdone;clear X hh hx hthr hdone t4
 go_enter Tryz.func83,Tryz.ntmps83
 go_wp2_with fail
 refine (done_any HX.out t ht).mono ?_;rintro e w1 ⟨rfl,hm⟩;rw[Hdone.out];have X1:=HX.out.frame0 hm;have HX1:=Lib.hid X1;have Hm:=Lib.hid hm;clear t0 t1 t2 t3 t5;obtain ⟨t0,t1,t2,t3,t4,t5⟩:=X1.top;obtain ⟨r0,r1,r2,r3,r4⟩:=X1.thr_at Hh.out;obtain ⟨cb,off,cc,e,hcb,hcell⟩:=code_cell X1 Hh.out Hx.out
 rw[e]at r0;obtain ⟨hpc,hco⟩:=X1.ot.code t h Hh.out;have hlen:=hco.len;have hlt:h.pc<h.code.length:=(List.getElem?_eq_some_iff.1 Hx.out).1;have c0:=hcell 0 _ rfl;have c1:=hcell 1 _ rfl;have c2:=hcell 2 _ rfl;have c3:=hcell 3 _ rfl;have c4:=hcell 4 _ rfl
 simp only[Nat.add_zero,opStr,iv,sv]at c0 c1 c2 c3 c4;generalize hd4:(⟨to.toArray⟩:ByteArray)=dto at *;have Hd4:=Lib.hid hd4;have f4:=r3 (t*3+2);have n48:L.blk 4 0≠L.blk 8 t:=X1.ne (by rw[obj4 ty m X1.olt.n4];rfl) (by rw[obj8 ty (X1.olt.n8 t ht) Hh.out];rfl) (by omega)
 have n04:L.blk 0 0≠L.blk 4 0:=X1.ne rfl (by rw[obj4 ty m X1.olt.n4];rfl) (by omega);have n08:L.blk 0 0≠L.blk 8 t:=X1.ne rfl (by rw[obj8 ty (X1.olt.n8 t ht) Hh.out];rfl) (by omega);have He:=Lib.hid e;clear hm X1 e hpc hco hcell t4 r3 hd4;go_wp2
 go_region
 have U0:=MUp.then0 ((MUp.quiet HX.out Hm.out).trans (HX1.out.pc Hh.out hlt)) (w3:=((w1.setCell ⟨L.blk 4 0,t*3+2,none⟩ (.int .i64 ((h.pc:Int)+1))).alloc (.cells #[.string ⟨#[102,111,114,99,101]⟩,.int .i64 A,.int .i64 B,.int .i64 C,.string dto] 143)).drew) (by repeat (first|exact Mod.refl _ _|refine Mod.drew ?_|refine Mod.drewN ?_ _|refine Mod.alloc ?_ _))
 have hbx:∀k,Foot ty allK L (m.setPc t (h.pc+1)) k→k<w1.heap.size:=fun k hk=>by
  have:=(HX1.out.pc Hh.out hlt).mach.rep.lt hk
  simpa using this
 have HU0:=Lib.hid U0;have Hbx:=Lib.hid hbx;clear U0 hbx;go_wp2;clear t0 t1 t2 t3 r0 r1 r2 c0 c1 c2 c3 c4
 go_loopw [29] (fun i wr=>∃k:Nat,k≤m.T.length∧i=.int .i64 k∧∃Lr,MUp ty w L m wr Lr ((m.setPc t (h.pc+1)).force k) (N+8*k)) (fun i _=>m.T.length - (intOf i).toNat)
 case atStart=>exact ⟨0,Nat.zero_le _,rfl,L,by simpa[M.force]using HU0.out⟩
 case round=>
  rename_i wr
  obtain ⟨k,hk,rfl,Lr,Ur⟩:=hrel
  have hlenT:((m.setPc t (h.pc+1)).force k).T.length=m.T.length:=by rw[force_T];simp[M.setPc]
  obtain ⟨q0,q1,q2,q3,q4,q5⟩:=Ur.mach.top;rw[Ur.top.1]at q0 q1 q5;rw[hlenT]at q1;have hcall:=machFence_any Ur.mach (by omega) k;rw[Ur.top.1]at hcall;have HUr:=Lib.hid Ur;have Hcall:=Lib.hid hcall;clear Ur hcall q2 q3 q4
  by_cases hlt:k<m.T.length
  ·have hd:decide ((k:Int)<(m.T.length:Int))=true:=by simp;omega
   go_wp2_with fail
   refine (Hcall.out (by rw[hlenT];exact hlt)).mono ?_;rintro e w7 ⟨rfl,L7,U7⟩;have HU7:=Lib.hid U7;clear U7;go_wp2
   go_roundw
   case rel=>
    refine ⟨k+1,by omega,by go_num,L7,?_⟩;rw[show N+8*((k+1:Nat):Int)=N+8*(k:Int)+8 from by omega];exact HUr.out.trans HU7.out
   case measure=>simp[intOf];omega
  ·have hd:decide ((k:Int)<(m.T.length:Int))=false:=by simp;omega
   obtain rfl:k=m.T.length:=by omega
   go_wp2;go_ret;exact ⟨rfl,Lr,HUr.out.mono (by omega)⟩
end
section
open Go.RowKit Qs Qh
variable {w:World}{L:Lay}{m:M}{N:Int}
theorem mdrain_any(X:Mach ty w L m N)(hN:N≤10000000000)(t:Nat)(ht:t<m.T.length) :
  Calls Tryz.prog 84 #[.pointer (some ⟨L.blk 0 0,0,none⟩),.int .i64 t] w fun e w'=>e=.returned (.int .i64 (m.drain t).2)∧∃L',MUp ty w L m w' L' (m.drain t).1 (N+1):=by
 obtain ⟨l,hl⟩:∃l,m.waits[t]?=some l:=⟨_,List.getElem?_eq_getElem (by rw[X.ot.len];exact ht)⟩
 have hwo:m.waitsOf t=l:=by simp[M.waitsOf,List.getD,hl]
 obtain ⟨t0,t1,t2,t3,t4,t5⟩:=X.top;have hf:=X.ot.f0
 have d0:decide ((t:Int)<0)=false:=by simp
 have d1:decide ((m.T.length:Int)≤(t:Int))=false:=by simp;omega
 have HX:=Lib.hid X
 cases l with
 |nil=>
  have hcall:=drain_none X.rep rfl rfl X.om X.ol t hl
  have hdr:m.drain t=(m,5):=by unfold M.drain;rw[hwo]
  have Hdr:=Lib.hid hdr;have Hcall:=Lib.hid hcall;clear hdr hcall X t4 hl hwo
  go_enter Tryz.func84,Tryz.ntmps84
  go_wp2_with (go_at_call 104;refine Hcall.out.mono ?_;rintro e w5 ⟨rfl,rfl⟩)
  go_ret;rw[Hdr.out];exact ⟨rfl,L,(MUp.quiet HX.out (Mod.refl _ _)).mono1⟩
 |cons x r=>
  have hcall:=drain_some X.rep rfl rfl rfl rfl rfl X.om X.ol (by omega) t hl;have hval:=X.om.wval t _ hl;have hx0:=(hval x (by simp)).1
  have om5:OkM N {m with cells:=(drain1 m.cells x).1,waits:=m.waits.set t r}:=
   (X.om.drain1 hx0).setWaits (by have:=X.om.wlen t _ hl;simp at this;omega) (fun y hy=>by simpa[drain1_length]using hval y (by simp[hy]))
  have hdr:m.drain t=({m with cells:=(drain1 m.cells x).1,waits:=m.waits.set t r,faults:=m.faults+(if (drain1 m.cells x).2 then 1 else 0)},0):=by unfold M.drain;rw[hwo]
  have hbad:=drain1_bad m.cells x;have Hdr:=Lib.hid hdr;have Hcall:=Lib.hid hcall;have Hom5:=Lib.hid om5
  cases hh:hereIn m.cells x.c x.g with
  |true=>
   rw[hh]at hbad
   have hde:drainE m.cells x=0:=by unfold drainE;rw[if_pos hh]
   have Hde:=Lib.hid hde;have Hbad:=Lib.hid hbad;clear hdr hcall X t4 hl hwo hval om5 hbad hh hde hx0
   go_enter Tryz.func84,Tryz.ntmps84
   go_wp2_with (go_at_call 104;refine Hcall.out.mono ?_;rintro e w5 ⟨rfl,L5,hU5⟩;rw[show drainE _ x=0 from Hde.out])
   go_ret;rw[Hdr.out,Hbad.out];refine ⟨rfl,L5,?_⟩;have U:=(HX.out.up (Int.le_refl N) hU5 Hom5.out rfl rfl rfl (by simp)).mono1
   simpa using U
  |false=>
   rw[hh]at hbad
   have hde:drainE m.cells x=7:=by unfold drainE;rw[if_neg (by rw[hh];decide)]
   have Hde:=Lib.hid hde;have Hbad:=Lib.hid hbad;clear hdr hcall X t4 hl hwo hval om5 hbad hh hde hx0
   go_enter Tryz.func84,Tryz.ntmps84
   go_wp2_with fail
   refine Hcall.out.mono ?_;rintro e w5 ⟨rfl,L5,hU5⟩;rw[show drainE _ x=7 from Hde.out];have U5:=HX.out.up (Int.le_refl N) hU5 Hom5.out rfl rfl rfl (by simp);obtain ⟨x0,x1,x2,x3,x4,x5⟩:=U5.mach.top;have x43:=x4 3;have E0:=U5.top.1;rw[E0]at x0 x3 x43 x5;have HE0:=Lib.hid E0;have HU5:=Lib.hid U5
   clear x1 x2 x4 E0 hU5 U5;go_wp2;go_ret;rw[Hdr.out,Hbad.out];refine ⟨rfl,L5,?_⟩;have V:=HU5.out.trans (HU5.out.mach.setFaults (N':=N+1) (m.faults+1) (by omega) (by omega) (by omega));rw[HE0.out]at V
   simpa using V
end
end Go.Proofs.YtppihkneeolomaaGreatDoor
section
namespace Qc
def gOwnC(f t:Nat):List Int:=[if f=3 then 1 else 0,if f=4 then 0 else (t:Int),0,0]
def gHubC(f n:Nat):List Int:=[1,0,if f=4 then 0 else (n:Int),0]
def gReg0(_:Nat):List Int:=[0,0,0,0,0,0,0,0]
def gReg1(t:Nat):List Int:=[0,0,0,0,0,0,(t:Int)+1,0]
def gReg2(n t:Nat):List Int:=[0,0,0,0,0,0,(t:Int)+1,(n:Int)+1]
end Qc
namespace Go.Proofs.YtppihkneeolomaaGreatDoor
open Go.RowKit Qs Qh Qc
variable {w wr w1 w2 w':World}{B lo hi S:Nat}{rv:Value}{rb:Nat→Nat}{rows regs:List (List Int)}{f n:Nat}
structure GrRel(w:World)(B lo hi S:Nat)(rv:Value)(rb:Nat→Nat)(rows regs:List (List Int))(wr:World):Prop where
 mod:Mod (fun x=>x=B∨(lo≤x∧x<hi)) w wr
 init:∃iv ib,BaseAt wr B iv rv∧Rws S wr.heap.size wr iv rows ib
 regs:Rws lo hi wr rv regs rb
structure GrOk(w:World)(B lo hi S:Nat):Prop where
 b:B<lo
 h:lo≤hi
 s:hi≤S
 w:S≤w.heap.size
theorem GrRel.set(R:GrRel w B lo hi S rv rb rows regs wr)(P:GrOk w B lo hi S){k j:Nat}{l:List Int}{x:Int}(hl:regs[k]?=some l)(hj:j<l.length) :
  GrRel w B lo hi S rv rb rows (regs.set k (l.set j x)) (wr.setCell ⟨rb k,j,none⟩ (.int .i64 x)):=by
 obtain ⟨iv,ib,hB,hI⟩:=R.init;obtain ⟨R1,hM⟩:=R.regs.set (x:=x) hl hj;have hb:=R.regs.bin k l hl (by omega);obtain ⟨p1,p2,p3,p4⟩:=P
 have hs:(wr.setCell ⟨rb k,j,none⟩ (.int .i64 x)).heap.size=wr.heap.size:=by simp[World.setCell]
 exact ⟨R.mod.trans hM fun x _ e=>by rw[e];exact .inr hb,⟨iv,ib,hM.heap hB (fun e=>by omega),hs ▸ hI.keep hM (fun y h1 h2 e=>by omega)⟩,R1⟩
end Go.Proofs.YtppihkneeolomaaGreatDoor
end
namespace Go.Proofs.YtppihkneeolomaaGreatDoor
section
open Go.RowKit Qs Qh Qc
variable {w wr w1 w2 w':World}{B lo hi S:Nat}{rv iv:Value}{rb:Nat→Nat}{rows regs:List (List Int)}{f n:Nat}
theorem ownCn(hf:¬f=4)(k:Nat):(ownC f).set 1 (k:Int)=gOwnC f k:=by unfold ownC gOwnC;rw[if_neg hf];rfl
theorem hubCn(hf:¬f=4)(n:Nat):([1,0,0,0]:List Int).set 2 (n:Int)=gHubC f n:=by unfold gHubC;rw[if_neg hf];rfl
theorem set_row{w:World}{g:Nat}{l:List Int}{T:TypeId}(h:w.heap[g]?=some (.cells (l.map (Value.int .i64)).toArray T (0,0)))(j:Nat)(x:Int):(w.setCell ⟨g,j,none⟩ (.int .i64 x)).heap[g]?=some (.cells ((l.set j x).map (Value.int .i64)).toArray T (0,0)):=by
 rw[Qh.heap_setCell_same h]
 congr 2
 simp[List.map_set]
theorem grace_ok(h1:1≤f)(h4:f≤4)(hn1:1≤n)(hn:n≤6)(hB:BaseAt w B (.slice none 0 0) rv)(R:Rws lo hi w rv (List.replicate n z8) rb)(hBl:B<lo)(hlh:lo≤hi)(hhi:hi≤w.heap.size) :
  Calls Tryz.prog 44 #[.pointer (some ⟨B,0,none⟩),.int .i64 (f:Nat)] w fun e w'=>e=.returned .nilIface∧∃iv ib,BaseAt w' B iv rv∧Rws lo hi w' rv (rowsF (gReg2 n) n) rb∧Rws w.heap.size w'.heap.size w' iv (rowsF (gOwnC f) n++[gHubC f n]) ib∧Mod (fun x=>x=B∨(lo≤x∧x<hi)) w w':=by
 have hub:=hhub_any h1 h4 w;have hlk:=fun w=>hlink_any h1 h4 w;have how:=fun w=>hown_any h1 h4 w;have HB:=Lib.hid hB;have HR:=Lib.hid R;have Hub:=Lib.hid hub;have Hlk:=Lib.hid hlk;have How:=Lib.hid how;obtain ⟨ra,rc,hrv,-⟩:=R.cell;rw[List.length_replicate]at hrv;subst hrv;clear hB R hub hlk how
 go_enter Tryz.func44,Tryz.ntmps44
 go_wp2_with fail
 refine Hub.out.mono ?_;rintro e w1 ⟨v,rfl,gh,rfl,hgh,hhc,hm1⟩;have Hm1:=Lib.hid hm1;have Hhc:=Lib.hid hhc;clear hm1 hhc Hub
 go_wp2_with fail
 refine (Hlk.out w1).mono ?_;rintro e w2 ⟨rfl,hm2⟩;have hm02:=Hm1.out.trans0 hm2;have hs2:=hm2.size;have hs1:=lt_of_block Hhc.out;have hsw:=hm02.size;have hB2:=hm02.heap HB.out (fun e=>e)
 have b2:w2.cell? ⟨B,2,none⟩=some (.slice ra n rc):=by rw[cell_of_heap hB2];rfl
 have hgh2:gh<w2.heap.size:=by omega
 have P:GrOk w2 B lo hi w2.heap.size:=⟨hBl,hlh,by omega,Nat.le_refl _⟩;have HP:=Lib.hid P
 have hR0:GrRel w2 B lo hi w2.heap.size (.slice ra n rc) rb (rowsF (gOwnC f) 0) (rowsF (mixF gReg1 gReg0 0) n) w2:=by
  refine ⟨Mod.refl _ _,⟨_,fun _=>0,hB2,Rws.nil _ _ _ _⟩,?_⟩;rw[mix_zero,show gReg0=fun _=>z8 from rfl,←rows_replicate];exact HR.out.keep hm02 (fun _ _ _ e=>e)
 have Hh2:=Lib.hid (hm2.heap Hhc.out (fun e=>e));have Hm02:=Lib.hid hm02;have HR0:=Lib.hid hR0;clear hm2 hm02 hB2 P hR0 Hm1 Hhc;generalize hlkv:lkC f=lk at *;go_wp2
 go_loopw [9,34] (fun c i wr=>∃k:Nat,k≤n∧c=.int .i64 k∧i=.int .i64 k∧GrRel w2 B lo hi w2.heap.size (.slice ra n rc) rb (rowsF (gOwnC f) k) (rowsF (mixF gReg1 gReg0 k) n) wr) (fun _ i _=>n - (intOf i).toNat)
 case atStart=>exact ⟨0,Nat.zero_le _,rfl,rfl,HR0.out⟩
 case round=>
  generalize wr=wo at *;obtain ⟨k,hk,rfl,rfl,hG⟩:=hrel
  by_cases hlt:k<n
  ·have hd:decide ((k:Int)<(n:Int))=true:=by simp;omega
   have hki:(k:Int)<(n:Int):=by omega
   have HG:=Lib.hid hG;clear hG
   go_wp2_with fail
   refine (How.out wo).mono ?_;rintro e w3 ⟨v,rfl,g,rfl,hg,hc,hm3⟩;obtain ⟨iv,ib,hB,hI⟩:=HG.out.init;have hso:w2.heap.size≤wo.heap.size:=HG.out.mod.size;have hs3:=hm3.size;have hB3:=hm3.heap hB (fun e=>e);have hI3:=hI.keep hm3 (fun _ _ _ e=>e);have hR3:=HG.out.regs.keep hm3 (fun _ _ _ e=>e)
   have hM3:=HG.out.mod.trans0 hm3;have hgl:=lt_of_block hc;have Hso:=Lib.hid hso;have Hg:=Lib.hid hg
   by_cases hf4:f=4
   ·obtain rfl:lk = -1:=by rw[←hlkv,hf4];rfl
    have hrow:w3.heap[g]?=some (.cells ((gOwnC f k).map (Value.int .i64)).toArray 3 (0,0)):=by subst hf4;exact hc
    have Hrow:=Lib.hid hrow;have HBq:=Lib.hid hB3;have HIq:=Lib.hid hI3;have HRq:=Lib.hid hR3;have HMq:=Lib.hid hM3;have Hsq:=Lib.hid hs3;clear hB hI hB3 hI3 hR3 hM3 hc hrow hs3 hso hg hm3 hlkv HG hf4
    go_wp2_with fail
    refine (cell_ok (l:=gOwnC f k) (r:=g) HBq.out HIq.out (by have:=Hsq.out;omega) (by have:=Hsq.out;have:=Hso.out;omega) (by omega) (by rw[rowsF_len];omega) (fun h=>⟨Hg.out,by have:=Hso.out;have:=Hg.out;omega⟩) (fun h=>Hrow.out)).mono ?_;rintro e w5 ⟨rfl,iv5,hB5,⟨ib5,hI5⟩,hm5⟩;rw[rowsF_push]at hI5
    rw[rowsF_len];have hvi:=HIq.out.vin
    have hG5:GrRel w2 B lo hi w2.heap.size (.slice ra n rc) rb (rowsF (gOwnC f) (k+1)) (rowsF (mixF gReg1 gReg0 k) n) w5:=by
     refine ⟨HMq.out.trans hm5 fun x hx e=>?_,⟨iv5,ib5,hB5,hI5⟩,HRq.out.keep hm5 fun x y1 y2 e=>?_⟩
     ·rcases e with e|e
      ·exact .inl e
      ·have:=(hvi x e).1;omega
     ·rcases e with e|e
      ·omega
      ·have:=(hvi x e).1;omega
    obtain ⟨ra',rc',hrv',hrx⟩:=hG5.regs.cell;rw[rowsF_len]at hrv';cases hrv';obtain ⟨gb,rfl,hgb,hrk⟩:=hrx k (gReg0 k) (mix_get hlt);have hrow:=hG5.regs.row k _ (mix_get hlt) (by simp[gReg0,gReg1])
    have b2:w5.cell? ⟨B,2,none⟩=some (.slice (some ⟨gb,0,none⟩) n rc):=by rw[cell_of_heap hB5];rfl
    have b3:w5.cell? ⟨gb,k,none⟩=some (.slice (some ⟨rb k,0,none⟩) 8 8):=hrk
    have b4:w5.cell? ⟨rb k,6,none⟩=some (.int .i64 0):=by rw[cell_of_heap hrow];rfl
    have b5:=free_of_heap hrow 6;have hset:=hG5.set HP.out (k:=k) (j:=6) (x:=(k:Int)+1) (mix_get hlt) (by simp[gReg0]);rw[show (gReg0 k).set 6 ((k:Int)+1)=gReg1 k from rfl,mix_set hlt]at hset;have Hset:=Lib.hid hset;clear hG5 hrx hrk hrow hset hB5 hI5 hm5 hvi;go_wp2
    go_roundw
    case rel=>exact ⟨k+1,by omega,by go_num,by go_num,Hset.out⟩
    case measure=>simp[intOf];omega
   ·obtain rfl:lk=2:=by rw[←hlkv];unfold lkC;rw[if_neg hf4]
    have q1:w3.cell? ⟨g,1,none⟩=some (.int .i64 0):=by rw[cell_of_heap hc];rfl
    have q2:=free_of_heap hc 1;have hMs:Mod (fun x=>x=g) w3 (w3.setCell ⟨g,1,none⟩ (.int .i64 k)):=(Mod.refl (fun x=>x=g) w3).setCell (fun _=>rfl) _;have hrow:=set_row hc 1 (k:Int);rw[ownCn hf4 k]at hrow;have Hrow:=Lib.hid hrow;have HBq:=Lib.hid (hMs.heap hB3 (fun e=>by have:=lt_of_block hB;omega))
    have HIq:=Lib.hid (hI3.keep hMs (fun x y1 y2 e=>by omega));have HRq:=Lib.hid (hR3.keep hMs (fun x y1 y2 e=>by omega));have HMq:=Lib.hid (hM3.trans hMs (fun x hx e=>by omega));have Hsq:=Lib.hid (Nat.le_trans hs3 hMs.size);clear hB hI hB3 hI3 hR3 hM3 hc hrow hs3 hso hg hm3 hMs hlkv HG hf4
    go_wp2_with fail
    refine (cell_ok (l:=gOwnC f k) (r:=g) HBq.out HIq.out (by have:=Hsq.out;omega) (by have:=Hsq.out;have:=Hso.out;omega) (by omega) (by rw[rowsF_len];omega) (fun h=>⟨Hg.out,by have:=Hso.out;have:=Hg.out;omega⟩) (fun h=>Hrow.out)).mono ?_;rintro e w5 ⟨rfl,iv5,hB5,⟨ib5,hI5⟩,hm5⟩;rw[rowsF_push]at hI5
    rw[rowsF_len];have hvi:=HIq.out.vin
    have hG5:GrRel w2 B lo hi w2.heap.size (.slice ra n rc) rb (rowsF (gOwnC f) (k+1)) (rowsF (mixF gReg1 gReg0 k) n) w5:=by
     refine ⟨HMq.out.trans hm5 fun x hx e=>?_,⟨iv5,ib5,hB5,hI5⟩,HRq.out.keep hm5 fun x y1 y2 e=>?_⟩
     ·rcases e with e|e
      ·exact .inl e
      ·have:=(hvi x e).1;omega
     ·rcases e with e|e
      ·omega
      ·have:=(hvi x e).1;omega
    obtain ⟨ra',rc',hrv',hrx⟩:=hG5.regs.cell;rw[rowsF_len]at hrv';cases hrv';obtain ⟨gb,rfl,hgb,hrk⟩:=hrx k (gReg0 k) (mix_get hlt);have hrow:=hG5.regs.row k _ (mix_get hlt) (by simp[gReg0,gReg1])
    have b2:w5.cell? ⟨B,2,none⟩=some (.slice (some ⟨gb,0,none⟩) n rc):=by rw[cell_of_heap hB5];rfl
    have b3:w5.cell? ⟨gb,k,none⟩=some (.slice (some ⟨rb k,0,none⟩) 8 8):=hrk
    have b4:w5.cell? ⟨rb k,6,none⟩=some (.int .i64 0):=by rw[cell_of_heap hrow];rfl
    have b5:=free_of_heap hrow 6;have hset:=hG5.set HP.out (k:=k) (j:=6) (x:=(k:Int)+1) (mix_get hlt) (by simp[gReg0]);rw[show (gReg0 k).set 6 ((k:Int)+1)=gReg1 k from rfl,mix_set hlt]at hset;have Hset:=Lib.hid hset;clear hG5 hrx hrk hrow hset hB5 hI5 hm5 hvi;go_wp2
    go_roundw
    case rel=>exact ⟨k+1,by omega,by go_num,by go_num,Hset.out⟩
    case measure=>simp[intOf];omega
  ·have hd:decide ((k:Int)<(n:Int))=false:=by simp;omega
   obtain rfl:n=k:=by omega
   have HG:=Lib.hid hG;clear hG;obtain ⟨iv,ib,hB,hI⟩:=HG.out.init;have hso:w2.heap.size≤wo.heap.size:=HG.out.mod.size;have hhub:=HG.out.mod.heap Hh2.out (fun e=>by omega);have hR3:=HG.out.regs;rw[mix_all]at hR3
   have hM3:Qh.Mod (fun x=>x=B∨(lo≤x∧x<hi)) w wo:=Hm02.out.any.trans HG.out.mod (fun x _ e=>e);have Hso:=Lib.hid hso
   by_cases hf4:f=4
   ·obtain rfl:lk = -1:=by rw[←hlkv,hf4];rfl
    have hrow:wo.heap[gh]?=some (.cells ((gHubC f n).map (Value.int .i64)).toArray 3 (0,0)):=by subst hf4;exact hhub
    have Hrow:=Lib.hid hrow;have HBq:=Lib.hid hB;have HIq:=Lib.hid hI;have HRq:=Lib.hid hR3;have HMq:=Lib.hid hM3;have Hsq:=Lib.hid (Nat.le_refl wo.heap.size);clear hB hI hR3 hM3 hhub hrow hso hlkv HG hf4
    go_wp2_with fail
    refine (cell_ok0 (lo0:=w.heap.size) (l:=gHubC f n) (r:=gh) (by omega) HBq.out HIq.out (by have:=Hsq.out;omega) (by have:=Hsq.out;have:=Hso.out;omega) (by omega) (by rw[rowsF_len];omega) (fun h=>⟨hgh,by omega,.inr hgh2⟩) (fun h=>Hrow.out)).mono ?_;rintro e w5 ⟨rfl,iv5,hB5,⟨ib5,hI5⟩,hm5⟩
    rw[rowsF_len];have hvi:=HIq.out.vin;have hP2:GrOk w B lo hi w.heap.size:=⟨hBl,hlh,hhi,Nat.le_refl _⟩;have HP2:=Lib.hid hP2
    have hG5:GrRel w B lo hi w.heap.size (.slice ra n rc) rb (rowsF (gOwnC f) n++[gHubC f n]) (rowsF (mixF (gReg2 n) gReg1 0) n) w5:=by
     refine ⟨HMq.out.trans hm5 fun x hx e=>?_,⟨iv5,ib5,hB5,hI5⟩,?_⟩
     ·rcases e with e|e
      ·exact .inl e
      ·have:=(hvi x e).1;omega
     ·rw[mix_zero];refine HRq.out.keep hm5 fun x y1 y2 e=>?_
      rcases e with e|e
      ·omega
      ·have:=(hvi x e).1;omega
    have HG5:=Lib.hid hG5
    have b2:w5.cell? ⟨B,2,none⟩=some (.slice ra n rc):=by rw[cell_of_heap hB5];rfl
    clear hG5 hB5 hI5 hm5 hvi hP2;go_wp2
    go_loopw [76] (fun i wr=>∃k:Nat,k≤n∧i=.int .i64 k∧GrRel w B lo hi w.heap.size (.slice ra n rc) rb (rowsF (gOwnC f) n++[gHubC f n]) (rowsF (mixF (gReg2 n) gReg1 k) n) wr) (fun i _=>n - (intOf i).toNat)
    case atStart=>exact ⟨0,Nat.zero_le _,rfl,HG5.out⟩
    case round=>
     generalize wr=w6 at *;obtain ⟨k,hk,rfl,hG5⟩:=hrel
     by_cases hlt:k<n
     ·have hd:decide ((k:Int)<(n:Int))=true:=by simp;omega
      have hki:(k:Int)<(n:Int):=by omega
      obtain ⟨iv6,ib6,hB5,hI6⟩:=hG5.init;clear b2;obtain ⟨ra',rc',hrv',hrx⟩:=hG5.regs.cell;rw[rowsF_len]at hrv';cases hrv';obtain ⟨gb,rfl,hgb,hrk⟩:=hrx k (gReg1 k) (mix_get hlt);have hrow:=hG5.regs.row k _ (mix_get hlt) (by simp[gReg0,gReg1])
      have b2:w6.cell? ⟨B,2,none⟩=some (.slice (some ⟨gb,0,none⟩) n rc):=by rw[cell_of_heap hB5];rfl
      have b3:w6.cell? ⟨gb,k,none⟩=some (.slice (some ⟨rb k,0,none⟩) 8 8):=hrk
      have b4:w6.cell? ⟨rb k,7,none⟩=some (.int .i64 0):=by rw[cell_of_heap hrow];rfl
      have b5:=free_of_heap hrow 7;have hset:=hG5.set HP2.out (k:=k) (j:=7) (x:=(n:Int)+1) (mix_get hlt) (by simp[gReg1]);rw[show (gReg1 k).set 7 ((n:Int)+1)=gReg2 n k from rfl,mix_set hlt]at hset;have Hset:=Lib.hid hset;clear hG5 hrx hrk hrow hset hB5 hI6;go_wp2
      go_roundw
      case rel=>exact ⟨k+1,by omega,by go_num,Hset.out⟩
      case measure=>simp[intOf];omega
     ·have hd:decide ((k:Int)<(n:Int))=false:=by simp;omega
      obtain rfl:n=k:=by omega
      have HGf:=Lib.hid hG5;clear hG5 b2;go_wp2;go_ret;obtain ⟨iv6,ib6,hB6,hI6⟩:=HGf.out.init;refine ⟨rfl,iv6,ib6,hB6,?_,hI6,HGf.out.mod⟩;have:=HGf.out.regs;rw[mix_all]at this;exact this
   ·obtain rfl:lk=2:=by rw[←hlkv];unfold lkC;rw[if_neg hf4]
    have q1:wo.cell? ⟨gh,2,none⟩=some (.int .i64 0):=by rw[cell_of_heap hhub];rfl
    have q2:=free_of_heap hhub 2;have hMs:Mod (fun x=>x=gh) wo (wo.setCell ⟨gh,2,none⟩ (.int .i64 (n:Int))):=(Mod.refl (fun x=>x=gh) wo).setCell (fun _=>rfl) _;have hrow:=set_row hhub 2 (n:Int);rw[hubCn hf4 n]at hrow;have Hrow:=Lib.hid hrow;have HBq:=Lib.hid (hMs.heap hB (fun e=>by omega))
    have HIq:=Lib.hid (hI.keep hMs (fun x y1 y2 e=>by omega));have HRq:=Lib.hid (hR3.keep hMs (fun x y1 y2 e=>by omega));have HMq:=Lib.hid (hM3.trans hMs (fun x hx e=>by omega));have Hsq:=Lib.hid hMs.size;clear hB hI hR3 hM3 hhub hrow hso hMs hlkv HG hf4
    go_wp2_with fail
    refine (cell_ok0 (lo0:=w.heap.size) (l:=gHubC f n) (r:=gh) (by omega) HBq.out HIq.out (by have:=Hsq.out;omega) (by have:=Hsq.out;have:=Hso.out;omega) (by omega) (by rw[rowsF_len];omega) (fun h=>⟨hgh,by omega,.inr hgh2⟩) (fun h=>Hrow.out)).mono ?_;rintro e w5 ⟨rfl,iv5,hB5,⟨ib5,hI5⟩,hm5⟩
    rw[rowsF_len];have hvi:=HIq.out.vin;have hP2:GrOk w B lo hi w.heap.size:=⟨hBl,hlh,hhi,Nat.le_refl _⟩;have HP2:=Lib.hid hP2
    have hG5:GrRel w B lo hi w.heap.size (.slice ra n rc) rb (rowsF (gOwnC f) n++[gHubC f n]) (rowsF (mixF (gReg2 n) gReg1 0) n) w5:=by
     refine ⟨HMq.out.trans hm5 fun x hx e=>?_,⟨iv5,ib5,hB5,hI5⟩,?_⟩
     ·rcases e with e|e
      ·exact .inl e
      ·have:=(hvi x e).1;omega
     ·rw[mix_zero];refine HRq.out.keep hm5 fun x y1 y2 e=>?_
      rcases e with e|e
      ·omega
      ·have:=(hvi x e).1;omega
    have HG5:=Lib.hid hG5
    have b2:w5.cell? ⟨B,2,none⟩=some (.slice ra n rc):=by rw[cell_of_heap hB5];rfl
    clear hG5 hB5 hI5 hm5 hvi hP2;go_wp2
    go_loopw [76] (fun i wr=>∃k:Nat,k≤n∧i=.int .i64 k∧GrRel w B lo hi w.heap.size (.slice ra n rc) rb (rowsF (gOwnC f) n++[gHubC f n]) (rowsF (mixF (gReg2 n) gReg1 k) n) wr) (fun i _=>n - (intOf i).toNat)
    case atStart=>exact ⟨0,Nat.zero_le _,rfl,HG5.out⟩
    case round=>
     generalize wr=w6 at *;obtain ⟨k,hk,rfl,hG5⟩:=hrel
     by_cases hlt:k<n
     ·have hd:decide ((k:Int)<(n:Int))=true:=by simp;omega
      have hki:(k:Int)<(n:Int):=by omega
      obtain ⟨iv6,ib6,hB5,hI6⟩:=hG5.init;clear b2;obtain ⟨ra',rc',hrv',hrx⟩:=hG5.regs.cell;rw[rowsF_len]at hrv';cases hrv';obtain ⟨gb,rfl,hgb,hrk⟩:=hrx k (gReg1 k) (mix_get hlt);have hrow:=hG5.regs.row k _ (mix_get hlt) (by simp[gReg0,gReg1])
      have b2:w6.cell? ⟨B,2,none⟩=some (.slice (some ⟨gb,0,none⟩) n rc):=by rw[cell_of_heap hB5];rfl
      have b3:w6.cell? ⟨gb,k,none⟩=some (.slice (some ⟨rb k,0,none⟩) 8 8):=hrk
      have b4:w6.cell? ⟨rb k,7,none⟩=some (.int .i64 0):=by rw[cell_of_heap hrow];rfl
      have b5:=free_of_heap hrow 7;have hset:=hG5.set HP2.out (k:=k) (j:=7) (x:=(n:Int)+1) (mix_get hlt) (by simp[gReg1]);rw[show (gReg1 k).set 7 ((n:Int)+1)=gReg2 n k from rfl,mix_set hlt]at hset;have Hset:=Lib.hid hset;clear hG5 hrx hrk hrow hset hB5 hI6;go_wp2
      go_roundw
      case rel=>exact ⟨k+1,by omega,by go_num,Hset.out⟩
      case measure=>simp[intOf];omega
     ·have hd:decide ((k:Int)<(n:Int))=false:=by simp;omega
      obtain rfl:n=k:=by omega
      have HGf:=Lib.hid hG5;clear hG5 b2;go_wp2;go_ret;obtain ⟨iv6,ib6,hB6,hI6⟩:=HGf.out.init;refine ⟨rfl,iv6,ib6,hB6,?_,hI6,HGf.out.mod⟩;have:=HGf.out.regs;rw[mix_all]at this;exact this
end
end Go.Proofs.YtppihkneeolomaaGreatDoor
section
namespace Qu
open Qs Qg Qh
variable {lab:Nat→List UInt8}
end Qu
namespace Go.Proofs.YtppihkneeolomaaGreatDoor
open Go.RowKit Qs Qh
structure Plc where
 T2:Nat
 B:Nat
 lo1:Nat
 hi1:Nat
 lo2:Nat
 hi2:Nat
 S:Nat
structure Plc.Ok(p:Plc)(w:World):Prop where
 t2:w.heap.size≤p.T2
 b:p.T2<p.B
 l1:p.B<p.lo1
 h1:p.lo1≤p.hi1
 l2:p.hi1≤p.lo2
 h2:p.lo2≤p.hi2
 s:p.hi2≤p.S
variable {w wr w1:World}{p:Plc}{iv rv cv cv' u:Value}{rb ib:Nat→Nat}{cs:Nat→List Instr}{n kr k:Nat}{vk:Nat→Value}
end Go.Proofs.YtppihkneeolomaaGreatDoor
end
namespace Go.Proofs.YtppihkneeolomaaGreatDoor
section
open Go.RowKit Qs Qh Qc
structure BldRel(w:World)(p:Plc)(iv rv:Value)(rb ib:Nat→Nat)(cs:Nat→List Instr)(ini regs:List (List Int))(k:Nat)(cv:Value)(vk:Nat→Value)(wr:World):Prop where
 mod:Mod noF w wr
 size:p.S≤wr.heap.size
 res:wr.heap[p.T2]?=some (.cells #[.int .i64 0,.slice none 0 0,.slice none 0 0] 32 (0,0))
 base:BaseAt wr p.B iv rv
 regs:Rws p.lo1 p.hi1 wr rv regs rb
 init:Rws p.lo2 p.hi2 wr iv ini ib
 cds:Cds p.S wr cv cs k vk
variable {w wr w1:World}{p:Plc}{iv rv cv cv' u:Value}{rb ib:Nat→Nat}{cs:Nat→List Instr}{ini regs:List (List Int)}{kr k j:Nat}{vk:Nat→Value}{l:List Int}{x:Int}
theorem BldRel.quiet(R:BldRel w p iv rv rb ib cs ini regs k cv vk wr)(h:Mod noF wr w1):BldRel w p iv rv rb ib cs ini regs k cv vk w1:=
 ⟨R.mod.trans0 h,Nat.le_trans R.size h.size,h.heap R.res (fun e=>e),h.heap R.base (fun e=>e),R.regs.keep h (fun _ _ _ e=>e),R.init.keep h (fun _ _ _ e=>e),R.cds.keep h (fun _ _ _ e=>e)⟩
theorem BldRel.store(R:BldRel w p iv rv rb ib cs ini regs k cv vk wr)(P:p.Ok w)(hl:regs[kr]?=some l)(hj:j<l.length):BldRel w p iv rv rb ib cs ini (regs.set kr (l.set j x)) k cv vk (wr.setCell ⟨rb kr,j,none⟩ (.int .i64 x))∧wr.heap[rb kr]?=some (.cells (l.map (Value.int .i64)).toArray 3 (0,0))∧p.lo1≤rb kr:=by
 obtain ⟨R1,hM⟩:=R.regs.set (x:=x) (j:=j) hl hj;have hb:=R.regs.bin kr l hl (by omega);have hP:=P;obtain ⟨p1,p2,p3,p4,p5,p6,p7⟩:=hP
 refine ⟨⟨R.mod.trans hM fun x hx e=>?_,Nat.le_trans R.size hM.size,hM.heap R.res (fun e=>?_),hM.heap R.base (fun e=>?_),R1,R.init.keep hM (fun x h1 h2 e=>?_),R.cds.keep hM (fun x h1 h2 e=>?_)⟩,R.regs.row kr l hl (by omega),hb.1⟩
 all_goals omega
theorem BldRel.push(R:BldRel w p iv rv rb ib cs ini regs k cv vk wr)(P:p.Ok w)(hc:CodeAt wr u (cs k))(hu:∀g,u.ownBlock=some g→p.S≤g∧g<wr.heap.size∧cv.ownBlock≠some g)
  (hown:w1.ownsRow 0 71 1 cv' (k+1) ((List.range k).map vk++[u])) (hg:wr.grownBy w1 cv.ownBlock) (hfr:∀g,cv'.ownBlock=some g→cv.ownBlock=some g∨wr.heap.size≤g) :
  BldRel w p iv rv rb ib cs ini regs (k+1) cv' (fun i=>if i=k then u else vk i) w1:=by
 have hM:Mod (fun x=>cv.ownBlock=some x) wr w1:=(Mod.refl (fun x=>cv.ownBlock=some x) wr).grown hg fun j hj _=>hj;have hcv:=R.cds.vin;obtain ⟨p1,p2,p3,p4,p5,p6,p7⟩:=P
 refine ⟨R.mod.trans hM fun x hx e=>?_,Nat.le_trans R.size hM.size,hM.heap R.res (fun e=>?_),hM.heap R.base (fun e=>?_),R.regs.keep hM (fun x h1 h2 e=>?_),R.init.keep hM (fun x h1 h2 e=>?_),R.cds.push R.size hc hu hown hg hfr⟩
 all_goals have:=hcv _ e;omega
end
section
open Go.RowKit Qs Qh
variable {N k S:Nat}{w w1 w':World}{v u cv cv':Value}{ll:List (List ROp)}{l:List ROp}{cs:Nat→List ROp}{vk:Nat→Value}
theorem RRow.frame(h:RRow N w u l){F:Nat→Prop}(hM:Mod F w w')(hF:∀b,u.ownBlock=some b→¬F b):RRow N w' u l:=by
 obtain ⟨a,c,rfl,hx⟩:=h;refine ⟨a,c,rfl,fun i x hi=>?_⟩;obtain ⟨b,off,rfl,hb,h0,h1⟩:=hx i x hi;exact ⟨b,off,rfl,hb,hM.cell h0 (hF b rfl),hM.cell h1 (hF b rfl)⟩
theorem RRow.mono(h:RRow N w u l){N':Nat}(hN:N≤N'):RRow N' w u l:=by
 obtain ⟨a,c,e,hx⟩:=h;refine ⟨a,c,e,fun i x hi=>?_⟩;obtain ⟨b,off,e1,hb,h⟩:=hx i x hi;exact ⟨b,off,e1,Nat.lt_of_lt_of_le hb hN,h⟩
def rV(_:Nat)(x:ROp):List Value:=[.string (x.1),.int .i64 (x.2)]
theorem rRow_own{T:TypeId}(h:w.ownsRow 0 T 2 u l.length (flat rV 0 l)):RRow w.heap.size w u l:=by
 rcases h.2 with ⟨rfl,h0⟩|⟨g,cap,cur,rfl,_,hg,h1,h2,h3,h4⟩
 ·exact ⟨none,0,by rw[h0],fun i x hi=>by have:=(List.getElem?_eq_some_iff.1 hi).1;omega⟩
 ·refine ⟨_,cap,rfl,fun i x hi=>⟨g,0,rfl,lt_of_block hg,?_,?_⟩⟩
  all_goals
   have hlt:i<l.length:=(List.getElem?_eq_some_iff.1 hi).1
   have key:∀j,j<2→cur[i*2+j]?=(rV 0 x)[j]?:=fun j hj=>by
    have hgt:=flat_get rV 2 (fun _ _=>rfl) hj l 0 i x hi [];rw[List.append_nil]at hgt
    have e:cur[i*2+j]?=(cur.toList.take (l.length*2))[i*2+j]?:=by
     rw[List.getElem?_take,if_pos (by omega)];simp
    rw[e,h4,hgt];rfl
  ·have:=key 0 (by omega);rw[cell_of_heap hg,Nat.zero_add];exact this
  ·have:=key 1 (by omega);rw[cell_of_heap hg,Nat.zero_add];exact this
end
section
open Go.RowKit Qs Qh
variable {w:World}{L:Lay}{m:M}{N:Int}
theorem rest_no{m:M}{k:Nat}(hk:k<m.T.length)(h:m.done k=false∨m.waitsOf k≠[]):m.rest=false:=by
 rw[←Bool.not_eq_true,M.rest_iff];intro e;have:=e k hk
 rcases h with h|h
 ·rw[h]at this;cases this.1
 ·exact h this.2
theorem rest_any(X:Mach ty w L m N) :
  Calls Tryz.prog 20 #[.pointer (some ⟨L.blk 0 0,0,none⟩)] w fun e w'=>e=.returned (.bool m.rest)∧Mod noF w w':=by
 have ht6:m.T.length≤6:=by have:=X.om.waits;have:=X.ot.len;omega
 have hwl:=X.ot.len;have HX:=Lib.hid X;have Hwl:=Lib.hid hwl;clear X hwl
 go_enter Tryz.func20,Tryz.ntmps20
 go_wp2
 go_loopw [3,4] (fun i d wr=>∃k:Nat,k≤m.T.length∧i=.int .i64 k∧Mod noF w wr∧∀j,j<k→m.done j=true∧m.waitsOf j=[]) (fun i d _=>m.T.length - (intOf i).toNat)
 case atStart=>exact ⟨0,Nat.zero_le _,rfl,Mod.refl _ _,fun j hj=>absurd hj (by omega)⟩
 case round=>
  rename_i wr
  obtain ⟨k,hk,rfl,hmr,hall⟩:=hrel;have Hall:=Lib.hid hall;clear hall;have Xr:=HX.out.frame0 hmr;obtain ⟨t0,t1,t2,t3,t4,t5⟩:=Xr.top
  by_cases hlt:k<m.T.length
  ·have hd:decide ((k:Int)<(m.T.length:Int))=true:=by simp;omega
   obtain ⟨l,hl⟩:∃l,m.waits[k]?=some l:=⟨_,List.getElem?_eq_getElem (by rw[Hwl.out];exact hlt)⟩
   have hwo:m.waitsOf k=l:=by simp[M.waitsOf,List.getD,hl]
   have HXr:=Lib.hid Xr;have Hmr:=Lib.hid hmr;have Hl:=Lib.hid hl;have Hwo:=Lib.hid hwo;clear Xr hmr t4 hl hwo
   go_wp2_with fail
   refine (done_any HXr.out k hlt).mono ?_;rintro e w1 ⟨rfl,hm1⟩;have X1:=HXr.out.frame0 hm1;obtain ⟨s0,s1,s2,s3,s4,s5⟩:=X1.top;have pw0:=X1.rep.waits_at rfl X1.ol;have pw1:=waits_row X1.rep rfl X1.ol (t:=k) (l:=l) Hl.out;obtain ⟨ra,rcp,hrow⟩:=row_slice X1.ol (t:=k) (l:=l) Hl.out;rw[hrow]at pw1
   have iT:(k:Int)<(m.waits.length:Int):=by have:=Hwl.out;omega
   have Hm1:=Lib.hid hm1;clear X1 s4 hm1 hrow
   cases hdn:m.done k with
   |false=>
    have hr:=rest_no hlt (.inl hdn);have Hr:=Lib.hid hr;have Hdn:=Lib.hid hdn;clear hdn hr;go_wp2;go_ret;exact ⟨ret_bool Hr.out.symm,Hmr.out.trans0 Hm1.out⟩
   |true=>
    have Hdn:=Lib.hid hdn;clear hdn
    by_cases hnil:l=[]
    ·subst hnil;go_wp2
     go_roundw
     case rel=>
      refine ⟨k+1,by omega,by go_num,Hmr.out.trans0 Hm1.out,fun j hj=>?_⟩
      by_cases e:j=k
      ·subst e;exact ⟨Hdn.out,Hwo.out⟩
      ·exact Hall.out j (by omega)
     case measure=>simp[intOf];omega
    ·have hr:=rest_no hlt (.inr (by rw[Hwo.out];exact hnil));have hpos:0<l.length:=List.length_pos_iff.2 hnil
     have hdp:decide (0<(l.length:Int))=true:=by simp;omega
     have Hr:=Lib.hid hr;clear hr hnil;go_wp2;go_ret;exact ⟨ret_bool Hr.out.symm,Hmr.out.trans0 Hm1.out⟩
  ·have hd:decide ((k:Int)<(m.T.length:Int))=false:=by simp;omega
   have hr:m.rest=true:=M.rest_iff.2 fun j hj=>Hall.out j (by omega);have Hr:=Lib.hid hr;have Hmr:=Lib.hid hmr;clear Xr hmr t4 hr;go_wp2;go_ret;exact ⟨ret_bool Hr.out.symm,Hmr.out⟩
end
end Go.Proofs.YtppihkneeolomaaGreatDoor
