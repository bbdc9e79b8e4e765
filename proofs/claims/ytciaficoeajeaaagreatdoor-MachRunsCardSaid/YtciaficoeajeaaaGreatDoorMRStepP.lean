/- (*quiescentref1.Machine).Step, instruction by instruction: alloc. -/
import Derived.Test.YtciaficoeajeaaaGreatDoorMRm7
import Derived.Test.YtciaficoeajeaaaGreatDoorMRm2
import Derived.Test.YtciaficoeajeaaaGreatDoorMRm3
import Derived.StillTailTactics
set_option linter.unusedVariables false
set_option linter.unusedSimpArgs false
set_option linter.unusedSectionVars false
set_option maxHeartbeats 4000000
set_option maxRecDepth 100000
namespace Go.Proofs.YtciaficoeajeaaaGreatDoor
open Go.RowKit Qs Qh
variable {w:World}{L:Lay}{m:M}{N:Int}
theorem wordV_fst(c g:Int):(wordV c g).1=wordOf c g:=by
 unfold wordV wordOf
 split <;> simp_all
theorem step_alloc_ok(X:Mach ty w L m N)(hN:N≤10000000000)(t:Nat)(ht:t<m.T.length){h:Thr}(hh:m.T[t]?=some h){a b c:Nat}{A B C:Int}{to:List UInt8}(hx:h.code[h.pc]?=some ⟨10,a,B,C,to⟩)(ha:a<8){i:Nat}{n:Int}(hal:allocAt m.cells 0=some (i,n)) :
  Calls Tryz.prog 15 #[.pointer (some ⟨L.blk 0 0,0,none⟩),.int .i64 t] w fun e w'=>e=.returned (.int .i64 0)∧∃L',MUp ty w L m w' L' (givenM (m.setPc t (h.pc+1)) t a i n) (N+1):=by
 have hthr:m.thr t=h:=by simp[M.thr,List.getD,hh]
 have hdone:m.done t=false:=by unfold M.done;rw[hthr,hx];rfl
 obtain ⟨t0,t1,t2,t3,t4,t5⟩:=X.top
 have ht6:m.T.length≤6:=by have:=X.om.waits;have:=X.ot.len;omega
 have hsp:=X.olt.sp4;have hsp8:=X.olt.sp8 t ht
 have d0:decide ((t:Int)<0)=false:=by simp
 have d1:decide ((m.T.length:Int)≤(t:Int))=false:=by simp;omega
 have HX:=Lib.hid X;have Hh:=Lib.hid hh;have Hx:=Lib.hid hx;have Hthr:=Lib.hid hthr;have Hdone:=Lib.hid hdone;clear X hh hx hthr hdone t4;have Hal:=Lib.hid hal;clear hal
 go_enter Tryz.func15,Tryz.ntmps15
 go_wp2_with fail
 refine (done_any HX.out t ht).mono ?_;rintro e w1 ⟨rfl,hm⟩;rw[Hdone.out];have X1:=HX.out.frame0 hm;have HX1:=Lib.hid X1;have Hm:=Lib.hid hm;clear t0 t1 t2 t3 t5;obtain ⟨t0,t1,t2,t3,t4,t5⟩:=X1.top;obtain ⟨r0,r1,r2,r3,r4⟩:=X1.thr_at Hh.out;obtain ⟨cb,off,cc,e,hcb,hcell⟩:=code_cell X1 Hh.out Hx.out
 rw[e]at r0;obtain ⟨hpc,hco⟩:=X1.ot.code t h Hh.out;have hlen:=hco.len;have hlt:h.pc<h.code.length:=(List.getElem?_eq_some_iff.1 Hx.out).1;have c0:=hcell 0 _ rfl;have c1:=hcell 1 _ rfl;have c2:=hcell 2 _ rfl;have c3:=hcell 3 _ rfl;have c4:=hcell 4 _ rfl
 simp only[Nat.add_zero,opStr,iv,sv]at c0 c1 c2 c3 c4;generalize hd4:(⟨to.toArray⟩:ByteArray)=dto at *;have Hd4:=Lib.hid hd4;obtain ⟨ga0,ga1,ga2⟩:=X1.reg_at Hh.out ha;have wa:=X1.regWord Hh.out ha;generalize hva:h.regs.getD a 0=va at *;obtain ⟨wa0,wa1⟩:=of_isWord wa;have Hva:=Lib.hid hva
 have Hwa:=Lib.hid wa;clear hva wa;have f4:=r3 (t*3+2);have n48:L.blk 4 0≠L.blk 8 t:=X1.ne (by rw[obj4 ty m X1.olt.n4];rfl) (by rw[obj8 ty (X1.olt.n8 t ht) Hh.out];rfl) (by omega);have n04:L.blk 0 0≠L.blk 4 0:=X1.ne rfl (by rw[obj4 ty m X1.olt.n4];rfl) (by omega)
 have n08:L.blk 0 0≠L.blk 8 t:=X1.ne rfl (by rw[obj8 ty (X1.olt.n8 t ht) Hh.out];rfl) (by omega);have He:=Lib.hid e;clear hm X1 e hpc hco hcell t4 r3 hd4
 have iA:(a:Int)<8:=by omega
 have iA0:(0:Int)≤(a:Int):=by omega
 go_wp2
 go_region
 have U0:=MUp.then0 ((MUp.quiet HX.out Hm.out).trans (HX1.out.pc Hh.out hlt)) (w3:=((w1.setCell ⟨L.blk 4 0,t*3+2,none⟩ (.int .i64 ((h.pc:Int)+1))).alloc (.cells #[.string ⟨#[97,108,108,111,99]⟩,.int .i64 a,.int .i64 B,.int .i64 C,.string dto] 73)).drew) (by repeat (first|exact Mod.refl _ _|refine Mod.drew ?_|refine Mod.drewN ?_ _|refine Mod.alloc ?_ _))
 have hbx:∀k,Foot ty allK L (m.setPc t (h.pc+1)) k→k<w1.heap.size:=fun k hk=>by
  have:=(HX1.out.pc Hh.out hlt).mach.rep.lt hk
  simpa using this
 have HU0:=Lib.hid U0;have Hbx:=Lib.hid hbx;clear U0 hbx
 go_wp2_with fail
 refine (alloc_any HU0.out.mach.rep rfl rfl rfl HU0.out.mach.om HU0.out.mach.ol (by omega)).mono ?_;rintro e w5 hpost;have hal2:allocAt (m.setPc t (h.pc+1)).cells 0=some (i,n):=Hal.out;rw[hal2]at hpost
 rcases hpost with ⟨i',n',hal',rfl,R5,hM5,hlt5⟩|⟨hal',rfl,hM5⟩
 rotate_left
 ·cases hal'
 cases hal';obtain ⟨c,hc,hct⟩:=allocAt_some _ _ _ _ hal2;rw[Nat.sub_zero]at hc;have hti:=HU0.out.mach.om.times i c hc;have hil:=(List.getElem?_eq_some_iff.1 hc).1;have hcl:=HU0.out.mach.om.cells;subst hct;have U5:=HU0.out.mach.given hc (by simp) R5 hM5
 have hT5:(m.setPc t (h.pc+1)).T[t]?=some {h with pc:=h.pc+1}:=setPc_T Hh.out _;generalize hB5:L.words i _=L5 at *
 have e80:L5.blk 8 t=L.blk 8 t:=by rw[←hB5];exact words_blk _ _ _ _ _ (by omega)
 have e00:L5.blk 0 0=L.blk 0 0:=U5.top.1;have X5:=U5.mach;obtain ⟨pga0,pga1,pga2⟩:=X5.reg_at hT5 ha;rw[e80]at pga0 pga1 pga2;have w5b0:w5.cell? ⟨w1.heap.size,0,none⟩=some (.string ⟨#[97,108,108,111,99]⟩):=U5.mod.cell (by rw[box_cell];rfl) (fun hf=>by have:=Hbx.out _ hf;simp at this)
 have w5b1:w5.cell? ⟨w1.heap.size,1,none⟩=some (.int .i64 a):=U5.mod.cell (by rw[box_cell];rfl) (fun hf=>by have:=Hbx.out _ hf;simp at this);have w5b2:w5.cell? ⟨w1.heap.size,2,none⟩=some (.int .i64 B):=U5.mod.cell (by rw[box_cell];rfl) (fun hf=>by have:=Hbx.out _ hf;simp at this)
 have w5b3:w5.cell? ⟨w1.heap.size,3,none⟩=some (.int .i64 C):=U5.mod.cell (by rw[box_cell];rfl) (fun hf=>by have:=Hbx.out _ hf;simp at this);have w5b4:w5.cell? ⟨w1.heap.size,4,none⟩=some (.string dto):=U5.mod.cell (by rw[box_cell];rfl) (fun hf=>by have:=Hbx.out _ hf;simp at this)
 have hs5:w1.heap.size<w5.heap.size:=by have:=U5.mod.size;simp at this;omega
 have hne:L.blk 8 t≠w1.heap.size:=by omega
 have hne5:L.blk 8 t≠w5.heap.size:=by omega
 have V0:=(HU0.out.trans U5).trans (U5.mach.setReg hT5 ha 0 (by decide));rw[e80]at V0;have V1:=V0.then0 ((Mod.refl noF _).alloc (.cells #[.int .i64 i,.int .i64 c.times] 101));have HV1:=Lib.hid V1;have HT5:=Lib.hid hT5;have He80:=Lib.hid e80;have Hti:=Lib.hid hti
 have HB5:=Lib.hid hB5;have HR5:=Lib.hid U5;clear X5 U5 R5 V0 V1 hT5 e80 e00 hti hc hM5 hlt5 hal2 hB5 t0 t1 t2 t3 r0 r1 r2 c0 c1 c2 c3 c4 ga0 ga1
 go_wp2_with fail
 have hi64:(i:Int)<64:=by omega
 obtain ⟨hti0,hti1⟩:=Hti.out;refine (wordOf_any i c.times _ (by omega) (by omega)).mono ?_;rintro e w6 ⟨rfl,hm6⟩;rw[wordV_fst];have V2:=HV1.out.then0 hm6;have hT6:=setReg_T HT5.out a 0;obtain ⟨k0,k1,k2⟩:=V2.mach.reg_at hT6 ha;rw[He80.out]at k0 k1 k2
 have y1:w6.cell? ⟨w1.heap.size,1,none⟩=some (.int .i64 a):=hm6.cell (by
  have h3:(w5.setCell ⟨L.blk 8 t,a,none⟩ (.int .i64 0)).cell? ⟨w1.heap.size,1,none⟩=some (.int .i64 a):=by
   rw[World.cell?_setCell_far _ _ _ _ hne];exact w5b1
  exact (World.cell?_alloc_some _ _ _ (by rw[h3];rfl)).trans h3) (fun e=>e)
 generalize hz:(wordV (i:Int) c.times).2=z;have HV2:=Lib.hid V2;have HT6:=Lib.hid hT6;clear V2 hT6 hm6 w5b0 w5b1 w5b2 w5b3 w5b4 hz;go_wp2;go_ret;refine ⟨rfl,L5,?_⟩;have V3:=HV2.out.trans (HV2.out.mach.setReg HT6.out ha (wordOf i c.times) (wordOf_word _ _));rw[He80.out,setReg_setReg]at V3;exact V3
theorem step_alloc_none(X:Mach ty w L m N)(hN:N≤10000000000)(t:Nat)(ht:t<m.T.length){h:Thr}(hh:m.T[t]?=some h){a b c:Nat}{A B C:Int}{to:List UInt8}(hx:h.code[h.pc]?=some ⟨10,a,B,C,to⟩)(ha:a<8)(hal:allocAt m.cells 0=none) :
  Calls Tryz.prog 15 #[.pointer (some ⟨L.blk 0 0,0,none⟩),.int .i64 t] w fun e w'=>e=.returned (.int .i64 0)∧∃L',MUp ty w L m w' L' ((m.setPc t (h.pc+1)).setReg t a 0) N:=by
 have hthr:m.thr t=h:=by simp[M.thr,List.getD,hh]
 have hdone:m.done t=false:=by unfold M.done;rw[hthr,hx];rfl
 obtain ⟨t0,t1,t2,t3,t4,t5⟩:=X.top
 have ht6:m.T.length≤6:=by have:=X.om.waits;have:=X.ot.len;omega
 have hsp:=X.olt.sp4;have hsp8:=X.olt.sp8 t ht
 have d0:decide ((t:Int)<0)=false:=by simp
 have d1:decide ((m.T.length:Int)≤(t:Int))=false:=by simp;omega
 have HX:=Lib.hid X;have Hh:=Lib.hid hh;have Hx:=Lib.hid hx;have Hthr:=Lib.hid hthr;have Hdone:=Lib.hid hdone;clear X hh hx hthr hdone t4;have Hal:=Lib.hid hal;clear hal
 go_enter Tryz.func15,Tryz.ntmps15
 go_wp2_with fail
 refine (done_any HX.out t ht).mono ?_;rintro e w1 ⟨rfl,hm⟩;rw[Hdone.out];have X1:=HX.out.frame0 hm;have HX1:=Lib.hid X1;have Hm:=Lib.hid hm;clear t0 t1 t2 t3 t5;obtain ⟨t0,t1,t2,t3,t4,t5⟩:=X1.top;obtain ⟨r0,r1,r2,r3,r4⟩:=X1.thr_at Hh.out;obtain ⟨cb,off,cc,e,hcb,hcell⟩:=code_cell X1 Hh.out Hx.out
 rw[e]at r0;obtain ⟨hpc,hco⟩:=X1.ot.code t h Hh.out;have hlen:=hco.len;have hlt:h.pc<h.code.length:=(List.getElem?_eq_some_iff.1 Hx.out).1;have c0:=hcell 0 _ rfl;have c1:=hcell 1 _ rfl;have c2:=hcell 2 _ rfl;have c3:=hcell 3 _ rfl;have c4:=hcell 4 _ rfl
 simp only[Nat.add_zero,opStr,iv,sv]at c0 c1 c2 c3 c4;generalize hd4:(⟨to.toArray⟩:ByteArray)=dto at *;have Hd4:=Lib.hid hd4;obtain ⟨ga0,ga1,ga2⟩:=X1.reg_at Hh.out ha;have wa:=X1.regWord Hh.out ha;generalize hva:h.regs.getD a 0=va at *;obtain ⟨wa0,wa1⟩:=of_isWord wa;have Hva:=Lib.hid hva
 have Hwa:=Lib.hid wa;clear hva wa;have f4:=r3 (t*3+2);have n48:L.blk 4 0≠L.blk 8 t:=X1.ne (by rw[obj4 ty m X1.olt.n4];rfl) (by rw[obj8 ty (X1.olt.n8 t ht) Hh.out];rfl) (by omega);have n04:L.blk 0 0≠L.blk 4 0:=X1.ne rfl (by rw[obj4 ty m X1.olt.n4];rfl) (by omega)
 have n08:L.blk 0 0≠L.blk 8 t:=X1.ne rfl (by rw[obj8 ty (X1.olt.n8 t ht) Hh.out];rfl) (by omega);have He:=Lib.hid e;clear hm X1 e hpc hco hcell t4 r3 hd4
 have iA:(a:Int)<8:=by omega
 have iA0:(0:Int)≤(a:Int):=by omega
 go_wp2
 go_region
 have U0:=MUp.then0 ((MUp.quiet HX.out Hm.out).trans (HX1.out.pc Hh.out hlt)) (w3:=((w1.setCell ⟨L.blk 4 0,t*3+2,none⟩ (.int .i64 ((h.pc:Int)+1))).alloc (.cells #[.string ⟨#[97,108,108,111,99]⟩,.int .i64 a,.int .i64 B,.int .i64 C,.string dto] 73)).drew) (by repeat (first|exact Mod.refl _ _|refine Mod.drew ?_|refine Mod.drewN ?_ _|refine Mod.alloc ?_ _))
 have hbx:∀k,Foot ty allK L (m.setPc t (h.pc+1)) k→k<w1.heap.size:=fun k hk=>by
  have:=(HX1.out.pc Hh.out hlt).mach.rep.lt hk
  simpa using this
 have HU0:=Lib.hid U0;have Hbx:=Lib.hid hbx;clear U0 hbx
 go_wp2_with fail
 refine (alloc_any HU0.out.mach.rep rfl rfl rfl HU0.out.mach.om HU0.out.mach.ol (by omega)).mono ?_;rintro e w5 hpost;have hal2:allocAt (m.setPc t (h.pc+1)).cells 0=none:=Hal.out;rw[hal2]at hpost
 rcases hpost with ⟨i',n',hal',rfl,R5,hM5,hlt5⟩|⟨hal',rfl,hm5⟩
 ·cases hal'
 have X5:=HU0.out.mach.frame0 hm5;obtain ⟨pga0,pga1,pga2⟩:=X5.reg_at (setPc_T Hh.out _) ha;have w5b0:w5.cell? ⟨w1.heap.size,0,none⟩=some (.string ⟨#[97,108,108,111,99]⟩):=hm5.cell (by rw[box_cell];rfl) (fun e=>e)
 have w5b1:w5.cell? ⟨w1.heap.size,1,none⟩=some (.int .i64 a):=hm5.cell (by rw[box_cell];rfl) (fun e=>e);have w5b2:w5.cell? ⟨w1.heap.size,2,none⟩=some (.int .i64 B):=hm5.cell (by rw[box_cell];rfl) (fun e=>e)
 have w5b3:w5.cell? ⟨w1.heap.size,3,none⟩=some (.int .i64 C):=hm5.cell (by rw[box_cell];rfl) (fun e=>e);have w5b4:w5.cell? ⟨w1.heap.size,4,none⟩=some (.string dto):=hm5.cell (by rw[box_cell];rfl) (fun e=>e)
 have hs5:w1.heap.size<w5.heap.size:=by have:=hm5.size;simp at this;omega
 have hne:L.blk 8 t≠w1.heap.size:=by omega
 have hne5:L.blk 8 t≠w5.heap.size:=by omega
 have HX5:=Lib.hid X5;have Hm5:=Lib.hid hm5;clear X5 hm5 hal2 hal' t0 t1 t2 t3 r0 r1 r2 c0 c1 c2 c3 c4 ga0 ga1;go_wp2;go_ret;refine ⟨rfl,L,?_⟩;have V0:=(HU0.out.then0 Hm5.out).trans (HX5.out.setReg (setPc_T Hh.out _) ha 0 (by decide))
 exact V0.then0 ((Mod.refl noF _).alloc (.cells #[.int .i64 0,.int .i64 0] 101))
end Go.Proofs.YtciaficoeajeaaaGreatDoor
