/- (*quiescentref1.Machine).Step, instruction by instruction: swap. -/
import Derived.Test.YtciaficoeajeaaaGreatDoorMRm7
import Derived.Test.YtciaficoeajeaaaGreatDoorMRm2
import Derived.Test.YtciaficoeajeaaaGreatDoorMRm3
import Derived.StillTailTactics
set_option linter.unusedVariables false
set_option linter.unusedSimpArgs false
set_option linter.unusedSectionVars false
set_option maxHeartbeats 4000000
set_option maxRecDepth 100000
namespace Go.Proofs.YtciaficoeajeaaaGreatDoor
open Go.RowKit Qs Qh
variable {w:World}{L:Lay}{m:M}{N:Int}
theorem step_swap_ok(X:Mach ty w L m N)(hN:N≤10000000000)(t:Nat)(ht:t<m.T.length){h:Thr}(hh:m.T[t]?=some h){a b c:Nat}{A B C:Int}{to:List UInt8}(hx:h.code[h.pc]?=some ⟨8,a,b,c,to⟩)(ha:a<8)(hb:b<8)(hc:c<4){rc:Nat}{rg:Int}(hrc:rc<m.cells.length)(hn:m.names (h.regs.getD b 0)=some ((rc:Int),rg)) :
  Calls Tryz.prog 15 #[.pointer (some ⟨L.blk 0 0,0,none⟩),.int .i64 t] w fun e w'=>e=.returned (.int .i64 0)∧∃L',MUp ty w L m w' L' (swapM ((m.setPc t (h.pc+1)).fence t) t a rc c (h.regs.getD a 0)) (N+8):=by
 have hthr:m.thr t=h:=by simp[M.thr,List.getD,hh]
 have hdone:m.done t=false:=by unfold M.done;rw[hthr,hx];rfl
 obtain ⟨t0,t1,t2,t3,t4,t5⟩:=X.top
 have ht6:m.T.length≤6:=by have:=X.om.waits;have:=X.ot.len;omega
 have hsp:=X.olt.sp4;have hsp8:=X.olt.sp8 t ht
 have d0:decide ((t:Int)<0)=false:=by simp
 have d1:decide ((m.T.length:Int)≤(t:Int))=false:=by simp;omega
 have HX:=Lib.hid X;have Hh:=Lib.hid hh;have Hx:=Lib.hid hx;have Hthr:=Lib.hid hthr;have Hdone:=Lib.hid hdone;clear X hh hx hthr hdone t4;have Hn:=Lib.hid hn;have Hrc:=Lib.hid hrc;clear hn hrc
 go_enter Tryz.func15,Tryz.ntmps15
 go_wp2_with fail
 refine (done_any HX.out t ht).mono ?_;rintro e w1 ⟨rfl,hm⟩;rw[Hdone.out];have X1:=HX.out.frame0 hm;have HX1:=Lib.hid X1;have Hm:=Lib.hid hm;clear t0 t1 t2 t3 t5;obtain ⟨t0,t1,t2,t3,t4,t5⟩:=X1.top;obtain ⟨r0,r1,r2,r3,r4⟩:=X1.thr_at Hh.out;obtain ⟨cb,off,cc,e,hcb,hcell⟩:=code_cell X1 Hh.out Hx.out
 rw[e]at r0;obtain ⟨hpc,hco⟩:=X1.ot.code t h Hh.out;have hlen:=hco.len;have hlt:h.pc<h.code.length:=(List.getElem?_eq_some_iff.1 Hx.out).1;have c0:=hcell 0 _ rfl;have c1:=hcell 1 _ rfl;have c2:=hcell 2 _ rfl;have c3:=hcell 3 _ rfl;have c4:=hcell 4 _ rfl
 simp only[Nat.add_zero,opStr,iv,sv]at c0 c1 c2 c3 c4;generalize hd4:(⟨to.toArray⟩:ByteArray)=dto at *;have Hd4:=Lib.hid hd4;obtain ⟨ga0,ga1,ga2⟩:=X1.reg_at Hh.out ha;have wa:=X1.regWord Hh.out ha;generalize hva:h.regs.getD a 0=va at *;obtain ⟨wa0,wa1⟩:=of_isWord wa;have Hva:=Lib.hid hva
 have Hwa:=Lib.hid wa;clear hva wa;obtain ⟨gb0,gb1,gb2⟩:=X1.reg_at Hh.out hb;have wb:=X1.regWord Hh.out hb;generalize hvb:h.regs.getD b 0=vb at *;obtain ⟨wb0,wb1⟩:=of_isWord wb;have Hvb:=Lib.hid hvb;have Hwb:=Lib.hid wb;clear hvb wb;have f4:=r3 (t*3+2)
 have n48:L.blk 4 0≠L.blk 8 t:=X1.ne (by rw[obj4 ty m X1.olt.n4];rfl) (by rw[obj8 ty (X1.olt.n8 t ht) Hh.out];rfl) (by omega);have n04:L.blk 0 0≠L.blk 4 0:=X1.ne rfl (by rw[obj4 ty m X1.olt.n4];rfl) (by omega)
 have n08:L.blk 0 0≠L.blk 8 t:=X1.ne rfl (by rw[obj8 ty (X1.olt.n8 t ht) Hh.out];rfl) (by omega);have He:=Lib.hid e;clear hm X1 e hpc hco hcell t4 r3 hd4
 have iA:(a:Int)<8:=by omega
 have iB:(b:Int)<8:=by omega
 have iA0:(0:Int)≤(a:Int):=by omega
 have iB0:(0:Int)≤(b:Int):=by omega
 have iC:(c:Int)<4:=by omega
 have iC0:(0:Int)≤(c:Int):=by omega
 go_wp2
 go_region
 have U0:=MUp.then0 ((MUp.quiet HX.out Hm.out).trans (HX1.out.pc Hh.out hlt)) (w3:=((w1.setCell ⟨L.blk 4 0,t*3+2,none⟩ (.int .i64 ((h.pc:Int)+1))).alloc (.cells #[.string ⟨#[115,119,97,112]⟩,.int .i64 a,.int .i64 b,.int .i64 c,.string dto] 73)).drew) (by repeat (first|exact Mod.refl _ _|refine Mod.drew ?_|refine Mod.drewN ?_ _|refine Mod.alloc ?_ _))
 have hbx:∀k,Foot ty allK L (m.setPc t (h.pc+1)) k→k<w1.heap.size:=fun k hk=>by
  have:=(HX1.out.pc Hh.out hlt).mach.rep.lt hk
  simpa using this
 have HU0:=Lib.hid U0;have Hbx:=Lib.hid hbx;clear U0 hbx
 go_wp2_with fail
 refine (names_ok HU0.out.mach (by omega) vb Hwb.out Hn.out).mono ?_;rintro e w5 ⟨rfl,hm5⟩;have X5:=HU0.out.mach.frame0 hm5;have w5b0:w5.cell? ⟨w1.heap.size,0,none⟩=some (.string ⟨#[115,119,97,112]⟩):=hm5.cell (by rw[box_cell];rfl) (fun e=>e)
 have w5b1:w5.cell? ⟨w1.heap.size,1,none⟩=some (.int .i64 a):=hm5.cell (by rw[box_cell];rfl) (fun e=>e);have w5b2:w5.cell? ⟨w1.heap.size,2,none⟩=some (.int .i64 b):=hm5.cell (by rw[box_cell];rfl) (fun e=>e)
 have w5b3:w5.cell? ⟨w1.heap.size,3,none⟩=some (.int .i64 c):=hm5.cell (by rw[box_cell];rfl) (fun e=>e);have w5b4:w5.cell? ⟨w1.heap.size,4,none⟩=some (.string dto):=hm5.cell (by rw[box_cell];rfl) (fun e=>e)
 have hs5:w1.heap.size<w5.heap.size:=by have:=hm5.size;simp at this;omega
 have HX5:=Lib.hid X5;have Hm5:=Lib.hid hm5;clear X5 hm5 t0 t1 t2 t3 r0 r1 r2 c0 c1 c2 c3 c4 ga0 ga1 gb0 gb1
 go_wp2_with fail
 have Xc:=HX5.out.frame0 ((Mod.refl _ w5).alloc (.cells #[.int .i64 rc,.int .i64 rg] 101));refine (machFence_ext Xc (by omega) t (by simpa[M.setPc]using ht)).mono ?_;rintro e w7 ⟨rfl,L7,U7,E7⟩;have X7:=U7.mach
 have hT:((m.setPc t (h.pc+1)).fence t).T[t]?=some {h with pc:=h.pc+1}:=setPc_T Hh.out _;have hmn:((m.setPc t (h.pc+1)).fence t).cells.length=m.cells.length:=drainAll_length _ _
 obtain ⟨c1,hc1⟩:∃c1,((m.setPc t (h.pc+1)).fence t).cells[rc]?=some c1:=⟨_,List.getElem?_eq_getElem (by rw[hmn];exact Hrc.out)⟩;generalize hm1:(m.setPc t (h.pc+1)).fence t=m1 at *;have e00:=U7.top.1;have e10:=U7.top.2;have e20:L7.blk 2 0=L.blk 2 0:=(E7.same 2 0 (by omega) (by omega)).1
 have e80:L7.blk 8 t=L.blk 8 t:=(E7.same 8 t (by omega) (by omega)).1;obtain ⟨q0,q1,q2,q3,q4,q5⟩:=X7.top;obtain ⟨s0,s1,s2,s3,s4⟩:=X7.word_at hc1 hc
 have n6:L7.blk 6 rc≠w1.heap.size:=fun e=>by
  have hf:Foot ty allK L7 m1 (L7.blk 6 rc):=⟨6,rc,rfl,by rw[obj6 ty (X7.ol.n6 rc s4) hc1];rfl,rfl⟩
  rcases U7.foot _ hf with h1|h1
  ·have:=Hbx.out _ h1;omega
  ·simp at h1;omega
 have n68:L7.blk 6 rc≠L.blk 8 t:=by
  rw[←e80];exact X7.ne (by rw[obj6 ty (X7.ol.n6 rc s4) hc1];rfl) (by rw[obj8 ty (X7.olt.n8 t (List.getElem?_eq_some_iff.1 hT).1) hT];rfl) (by omega)
 have y0:w7.cell? ⟨w5.heap.size,0,none⟩=some (.int .i64 rc):=U7.mod.cell (World.cell?_alloc_new w5 _ _ 0) (fun hf=>by have:=Hbx.out _ hf;simp at this;omega)
 have y1:w7.cell? ⟨w1.heap.size,1,none⟩=some (.int .i64 a):=U7.mod.cell ((World.cell?_alloc_some w5 _ _ (by rw[w5b1];rfl)).trans w5b1) (fun hf=>by have:=Hbx.out _ hf;simp at this)
 have y2:w7.cell? ⟨w1.heap.size,2,none⟩=some (.int .i64 b):=U7.mod.cell ((World.cell?_alloc_some w5 _ _ (by rw[w5b2];rfl)).trans w5b2) (fun hf=>by have:=Hbx.out _ hf;simp at this)
 have y3:w7.cell? ⟨w1.heap.size,3,none⟩=some (.int .i64 c):=U7.mod.cell ((World.cell?_alloc_some w5 _ _ (by rw[w5b3];rfl)).trans w5b3) (fun hf=>by have:=Hbx.out _ hf;simp at this);have ka:=(X7.reg_at hT ha);rw[show ({h with pc:=h.pc+1}:Thr).regs.getD a 0=h.regs.getD a 0 from rfl,Hva.out]at ka
 obtain ⟨ka0,ka1,ka2⟩:=ka;rw[e80]at ka0 ka1 ka2;rw[e00]at q0 q5;rw[e10]at q0 s0;rw[e20]at s0 s1;clear q1 q2 q3 q4;have gw:=getWord_word X7.om rc c;generalize hgv:getWord m1.cells rc c=gv at *;obtain ⟨gw0,gw1⟩:=of_isWord gw;generalize hmn1:m1.cells.length=n1 at *
 have irc:(rc:Int)<(n1:Int):=by omega
 have irc0:(0:Int)≤(rc:Int):=by omega
 have HU7:=Lib.hid U7;have HE7:=Lib.hid E7;have He80:=Lib.hid e80;have HT:=Lib.hid hT;have Hc1:=Lib.hid hc1;have Hm1:=Lib.hid hm1;have Hgv:=Lib.hid hgv;have Hgw:=Lib.hid gw;clear U7 E7 X7 hT hc1 hm1 hgv gw e00 e10 e20 e80 Xc hmn hmn1 w5b0 w5b1 w5b2 w5b3 w5b4;go_wp2
 go_quiet (fail)
 go_wp2;refine wp_region_still_tail 20 (by kernel_rfl) (by kernel_rfl) ?_;simp only[List.take_succ_cons,List.take_zero,List.drop_succ_cons,List.drop_zero,World.drew_eq]
 repeat still_step
 refine wpStill_nil ?_;go_wp2;go_ret;refine ⟨rfl,L7,?_⟩;rw[Hm1.out,Hva.out];unfold swapM;rw[Hgv.out];have V0:=(HU0.out.then0 Hm5.out).trans ((MUp.quiet HX5.out ((Mod.refl _ w5).alloc (.cells #[.int .i64 rc,.int .i64 rg] 101))).trans HU7.out)
 have V1:=V0.then0 ((Mod.refl _ w7).drewN (nq+1));have V2:=V1.trans (V1.mach.setWord Hc1.out hc va Hwa.out);have V3:=V2.trans (V2.mach.setReg HT.out ha gv Hgw.out);rw[He80.out]at V3;exact V3
theorem step_swap_none(X:Mach ty w L m N)(hN:N≤10000000000)(t:Nat)(ht:t<m.T.length){h:Thr}(hh:m.T[t]?=some h){a b c:Nat}{A B C:Int}{to:List UInt8}(hx:h.code[h.pc]?=some ⟨8,a,b,C,to⟩)(ha:a<8)(hb:b<8)(hn:m.names (h.regs.getD b 0)=none) :
  Calls Tryz.prog 15 #[.pointer (some ⟨L.blk 0 0,0,none⟩),.int .i64 t] w fun e w'=>e=.returned (.int .i64 0)∧∃L',MUp ty w L m w' L' (((m.setPc t (h.pc+1)).fault).setReg t a 0) (N+1):=by
 have hthr:m.thr t=h:=by simp[M.thr,List.getD,hh]
 have hdone:m.done t=false:=by unfold M.done;rw[hthr,hx];rfl
 obtain ⟨t0,t1,t2,t3,t4,t5⟩:=X.top
 have ht6:m.T.length≤6:=by have:=X.om.waits;have:=X.ot.len;omega
 have hsp:=X.olt.sp4;have hsp8:=X.olt.sp8 t ht
 have d0:decide ((t:Int)<0)=false:=by simp
 have d1:decide ((m.T.length:Int)≤(t:Int))=false:=by simp;omega
 have HX:=Lib.hid X;have Hh:=Lib.hid hh;have Hx:=Lib.hid hx;have Hthr:=Lib.hid hthr;have Hdone:=Lib.hid hdone;clear X hh hx hthr hdone t4;have Hn:=Lib.hid hn;clear hn
 go_enter Tryz.func15,Tryz.ntmps15
 go_wp2_with fail
 refine (done_any HX.out t ht).mono ?_;rintro e w1 ⟨rfl,hm⟩;rw[Hdone.out];have X1:=HX.out.frame0 hm;have HX1:=Lib.hid X1;have Hm:=Lib.hid hm;clear t0 t1 t2 t3 t5;obtain ⟨t0,t1,t2,t3,t4,t5⟩:=X1.top;obtain ⟨r0,r1,r2,r3,r4⟩:=X1.thr_at Hh.out;obtain ⟨cb,off,cc,e,hcb,hcell⟩:=code_cell X1 Hh.out Hx.out
 rw[e]at r0;obtain ⟨hpc,hco⟩:=X1.ot.code t h Hh.out;have hlen:=hco.len;have hlt:h.pc<h.code.length:=(List.getElem?_eq_some_iff.1 Hx.out).1;have c0:=hcell 0 _ rfl;have c1:=hcell 1 _ rfl;have c2:=hcell 2 _ rfl;have c3:=hcell 3 _ rfl;have c4:=hcell 4 _ rfl
 simp only[Nat.add_zero,opStr,iv,sv]at c0 c1 c2 c3 c4;generalize hd4:(⟨to.toArray⟩:ByteArray)=dto at *;have Hd4:=Lib.hid hd4;obtain ⟨ga0,ga1,ga2⟩:=X1.reg_at Hh.out ha;have wa:=X1.regWord Hh.out ha;generalize hva:h.regs.getD a 0=va at *;obtain ⟨wa0,wa1⟩:=of_isWord wa;have Hva:=Lib.hid hva
 have Hwa:=Lib.hid wa;clear hva wa;obtain ⟨gb0,gb1,gb2⟩:=X1.reg_at Hh.out hb;have wb:=X1.regWord Hh.out hb;generalize hvb:h.regs.getD b 0=vb at *;obtain ⟨wb0,wb1⟩:=of_isWord wb;have Hvb:=Lib.hid hvb;have Hwb:=Lib.hid wb;clear hvb wb;have f4:=r3 (t*3+2)
 have n48:L.blk 4 0≠L.blk 8 t:=X1.ne (by rw[obj4 ty m X1.olt.n4];rfl) (by rw[obj8 ty (X1.olt.n8 t ht) Hh.out];rfl) (by omega);have n04:L.blk 0 0≠L.blk 4 0:=X1.ne rfl (by rw[obj4 ty m X1.olt.n4];rfl) (by omega)
 have n08:L.blk 0 0≠L.blk 8 t:=X1.ne rfl (by rw[obj8 ty (X1.olt.n8 t ht) Hh.out];rfl) (by omega);have He:=Lib.hid e;clear hm X1 e hpc hco hcell t4 r3 hd4
 have iA:(a:Int)<8:=by omega
 have iB:(b:Int)<8:=by omega
 have iA0:(0:Int)≤(a:Int):=by omega
 have iB0:(0:Int)≤(b:Int):=by omega
 go_wp2
 go_region
 have U0:=MUp.then0 ((MUp.quiet HX.out Hm.out).trans (HX1.out.pc Hh.out hlt)) (w3:=((w1.setCell ⟨L.blk 4 0,t*3+2,none⟩ (.int .i64 ((h.pc:Int)+1))).alloc (.cells #[.string ⟨#[115,119,97,112]⟩,.int .i64 a,.int .i64 b,.int .i64 C,.string dto] 73)).drew) (by repeat (first|exact Mod.refl _ _|refine Mod.drew ?_|refine Mod.drewN ?_ _|refine Mod.alloc ?_ _))
 have hbx:∀k,Foot ty allK L (m.setPc t (h.pc+1)) k→k<w1.heap.size:=fun k hk=>by
  have:=(HX1.out.pc Hh.out hlt).mach.rep.lt hk
  simpa using this
 have HU0:=Lib.hid U0;have Hbx:=Lib.hid hbx;clear U0 hbx
 go_wp2_with fail
 refine (names_none HU0.out.mach (by omega) vb Hwb.out Hn.out).mono ?_;rintro e w5 ⟨rc,rg,rfl,U5⟩;have X5:=U5.mach;have w5b0:w5.cell? ⟨w1.heap.size,0,none⟩=some (.string ⟨#[115,119,97,112]⟩):=U5.mod.cell (by rw[box_cell];rfl) (fun hf=>by have:=Hbx.out _ hf;simp at this)
 have w5b1:w5.cell? ⟨w1.heap.size,1,none⟩=some (.int .i64 a):=U5.mod.cell (by rw[box_cell];rfl) (fun hf=>by have:=Hbx.out _ hf;simp at this);have w5b2:w5.cell? ⟨w1.heap.size,2,none⟩=some (.int .i64 b):=U5.mod.cell (by rw[box_cell];rfl) (fun hf=>by have:=Hbx.out _ hf;simp at this)
 have w5b3:w5.cell? ⟨w1.heap.size,3,none⟩=some (.int .i64 C):=U5.mod.cell (by rw[box_cell];rfl) (fun hf=>by have:=Hbx.out _ hf;simp at this);have w5b4:w5.cell? ⟨w1.heap.size,4,none⟩=some (.string dto):=U5.mod.cell (by rw[box_cell];rfl) (fun hf=>by have:=Hbx.out _ hf;simp at this)
 obtain ⟨pt0,pt1,pt2,pt3,pt4,pt5⟩:=X5.top;obtain ⟨pr0,pr1,pr2,pr3,pr4⟩:=X5.thr_at (setPc_T Hh.out _);obtain ⟨pga0,pga1,pga2⟩:=X5.reg_at (setPc_T Hh.out _) ha;obtain ⟨pgb0,pgb1,pgb2⟩:=X5.reg_at (setPc_T Hh.out _) hb
 have hs5:w1.heap.size<w5.heap.size:=by have:=U5.mod.size;simp at this;omega
 have HX5:=Lib.hid X5;have HU5:=Lib.hid U5;clear X5 U5 pt4 pr3 pt1 pt2 pt3 t0 t1 t2 t3 r0 r1 r2 c0 c1 c2 c3 c4 ga0 ga1 gb0 gb1;go_wp2;go_ret;refine ⟨rfl,L,?_⟩
 exact MUp.then0 ((HU0.out.trans HU5.out).trans (HX5.out.setReg (setPc_T Hh.out _) ha 0 (by decide))) (by repeat (first|exact Mod.refl _ _|refine Mod.drew ?_|refine Mod.drewN ?_ _|refine Mod.alloc ?_ _))
end Go.Proofs.YtciaficoeajeaaaGreatDoor
