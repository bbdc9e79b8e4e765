/- (*quiescentref1.Machine).Step, instruction by instruction: load. -/
import Derived.Test.YtciaficoeajeaaaGreatDoorMRm7
import Derived.Test.YtciaficoeajeaaaGreatDoorMRm2
import Derived.Test.YtciaficoeajeaaaGreatDoorMRm3
import Derived.StillTailTactics
import Derived.Deep.RegionHeld3
set_option linter.unusedVariables false
set_option linter.unusedSimpArgs false
set_option linter.unusedSectionVars false
set_option maxHeartbeats 4000000
set_option maxRecDepth 100000
namespace Go.Proofs.YtciaficoeajeaaaGreatDoor
open Go.RowKit Qs Qh
variable {w:World}{L:Lay}{m:M}{N:Int}
theorem step_load_ok(X:Mach ty w L m N)(hN:N≤10000000000)(t:Nat)(ht:t<m.T.length){h:Thr}(hh:m.T[t]?=some h){a b c:Nat}{A B C:Int}{to:List UInt8}(hx:h.code[h.pc]?=some ⟨6,a,b,C,to⟩)(ha:a<8)(hb:b<8)(hC:0≤C∧C<4){rc rg:Int}(hn:m.names (h.regs.getD b 0)=some (rc,rg)) :
  Calls Tryz.prog 15 #[.pointer (some ⟨L.blk 0 0,0,none⟩),.int .i64 t] w fun e w'=>e=.returned (.int .i64 0)∧∃L',MUp ty w L m w' L' ((m.setPc t (h.pc+1)).setReg t a (Qs.look (m.waitsOf t) rc rg C (getWord m.cells rc.toNat C.toNat))) N:=by
 have hthr:m.thr t=h:=by simp[M.thr,List.getD,hh]
 have hdone:m.done t=false:=by unfold M.done;rw[hthr,hx];rfl
 obtain ⟨t0,t1,t2,t3,t4,t5⟩:=X.top
 have ht6:m.T.length≤6:=by have:=X.om.waits;have:=X.ot.len;omega
 have hsp:=X.olt.sp4;have hsp8:=X.olt.sp8 t ht
 have d0:decide ((t:Int)<0)=false:=by simp
 have d1:decide ((m.T.length:Int)≤(t:Int))=false:=by simp;omega
 have HX:=Lib.hid X;have Hh:=Lib.hid hh;have Hx:=Lib.hid hx;have Hthr:=Lib.hid hthr;have Hdone:=Lib.hid hdone;clear X hh hx hthr hdone t4;have Hn:=Lib.hid hn;clear hn
 go_enter Tryz.func15,Tryz.ntmps15
 go_wp2_with fail
 refine (done_any HX.out t ht).mono ?_;rintro e w1 ⟨rfl,hm⟩;rw[Hdone.out];have X1:=HX.out.frame0 hm;have HX1:=Lib.hid X1;have Hm:=Lib.hid hm;clear t0 t1 t2 t3 t5;obtain ⟨t0,t1,t2,t3,t4,t5⟩:=X1.top;obtain ⟨r0,r1,r2,r3,r4⟩:=X1.thr_at Hh.out;obtain ⟨cb,off,cc,e,hcb,hcell⟩:=code_cell X1 Hh.out Hx.out
 rw[e]at r0;obtain ⟨hpc,hco⟩:=X1.ot.code t h Hh.out;have hlen:=hco.len;have hlt:h.pc<h.code.length:=(List.getElem?_eq_some_iff.1 Hx.out).1;have c0:=hcell 0 _ rfl;have c1:=hcell 1 _ rfl;have c2:=hcell 2 _ rfl;have c3:=hcell 3 _ rfl;have c4:=hcell 4 _ rfl
 simp only[Nat.add_zero,opStr,iv,sv]at c0 c1 c2 c3 c4;generalize hd4:(⟨to.toArray⟩:ByteArray)=dto at *;have Hd4:=Lib.hid hd4;obtain ⟨ga0,ga1,ga2⟩:=X1.reg_at Hh.out ha;have wa:=X1.regWord Hh.out ha;generalize hva:h.regs.getD a 0=va at *;obtain ⟨wa0,wa1⟩:=of_isWord wa;have Hva:=Lib.hid hva
 have Hwa:=Lib.hid wa;clear hva wa;obtain ⟨gb0,gb1,gb2⟩:=X1.reg_at Hh.out hb;have wb:=X1.regWord Hh.out hb;generalize hvb:h.regs.getD b 0=vb at *;obtain ⟨wb0,wb1⟩:=of_isWord wb;have Hvb:=Lib.hid hvb;have Hwb:=Lib.hid wb;clear hvb wb;have f4:=r3 (t*3+2)
 have n48:L.blk 4 0≠L.blk 8 t:=X1.ne (by rw[obj4 ty m X1.olt.n4];rfl) (by rw[obj8 ty (X1.olt.n8 t ht) Hh.out];rfl) (by omega);have n04:L.blk 0 0≠L.blk 4 0:=X1.ne rfl (by rw[obj4 ty m X1.olt.n4];rfl) (by omega)
 have n08:L.blk 0 0≠L.blk 8 t:=X1.ne rfl (by rw[obj8 ty (X1.olt.n8 t ht) Hh.out];rfl) (by omega);have He:=Lib.hid e;clear hm X1 e hpc hco hcell t4 r3 hd4
 have iA:(a:Int)<8:=by omega
 have iB:(b:Int)<8:=by omega
 have iA0:(0:Int)≤(a:Int):=by omega
 have iB0:(0:Int)≤(b:Int):=by omega
 go_wp2
 go_region
 have U0:=MUp.then0 ((MUp.quiet HX.out Hm.out).trans (HX1.out.pc Hh.out hlt)) (w3:=((w1.setCell ⟨L.blk 4 0,t*3+2,none⟩ (.int .i64 ((h.pc:Int)+1))).alloc (.cells #[.string ⟨#[108,111,97,100]⟩,.int .i64 a,.int .i64 b,.int .i64 C,.string dto] 73)).drew) (by repeat (first|exact Mod.refl _ _|refine Mod.drew ?_|refine Mod.drewN ?_ _|refine Mod.alloc ?_ _))
 have hbx:∀k,Foot ty allK L (m.setPc t (h.pc+1)) k→k<w1.heap.size:=fun k hk=>by
  have:=(HX1.out.pc Hh.out hlt).mach.rep.lt hk
  simpa using this
 have HU0:=Lib.hid U0;have Hbx:=Lib.hid hbx;clear U0 hbx
 go_wp2_with fail
 refine (names_ok HU0.out.mach (by omega) vb Hwb.out Hn.out).mono ?_;rintro e w5 ⟨rfl,hm5⟩;have X5:=HU0.out.mach.frame0 hm5;have w5b0:w5.cell? ⟨w1.heap.size,0,none⟩=some (.string ⟨#[108,111,97,100]⟩):=hm5.cell (by rw[box_cell];rfl) (fun e=>e)
 have w5b1:w5.cell? ⟨w1.heap.size,1,none⟩=some (.int .i64 a):=hm5.cell (by rw[box_cell];rfl) (fun e=>e);have w5b2:w5.cell? ⟨w1.heap.size,2,none⟩=some (.int .i64 b):=hm5.cell (by rw[box_cell];rfl) (fun e=>e)
 have w5b3:w5.cell? ⟨w1.heap.size,3,none⟩=some (.int .i64 C):=hm5.cell (by rw[box_cell];rfl) (fun e=>e);have w5b4:w5.cell? ⟨w1.heap.size,4,none⟩=some (.string dto):=hm5.cell (by rw[box_cell];rfl) (fun e=>e);obtain ⟨pt0,pt1,pt2,pt3,pt4,pt5⟩:=X5.top
 obtain ⟨pr0,pr1,pr2,pr3,pr4⟩:=X5.thr_at (setPc_T Hh.out _);obtain ⟨pga0,pga1,pga2⟩:=X5.reg_at (setPc_T Hh.out _) ha
 have hs5:w1.heap.size<w5.heap.size:=by have:=hm5.size;simp at this;omega
 have HX5:=Lib.hid X5;have Hm5:=Lib.hid hm5;clear X5 hm5 pt4 pr3 pt1 pt2 pt3 t0 t1 t2 t3 r0 r1 r2 c0 c1 c2 c3 c4 ga0 ga1 gb0 gb1
 have hsz5:((w5.setCell ⟨L.blk 8 t,a,none⟩ (.int .i64 0)).alloc (.cells #[.int .i64 rc,.int .i64 rg] 101)).heap.size=w5.heap.size+1:=by simp
 have U6:=MUp.then0 (((HU0.out.then0 Hm5.out)).trans (HX5.out.setReg (setPc_T Hh.out _) ha 0 (by decide))) (w3:=((w5.setCell ⟨L.blk 8 t,a,none⟩ (.int .i64 0)).alloc (.cells #[.int .i64 rc,.int .i64 rg] 101)).drew) (by repeat (first|exact Mod.refl _ _|refine Mod.drew ?_|refine Mod.drewN ?_ _|refine Mod.alloc ?_ _))
 have hcall:∀W,Mod noF ((w5.setCell ⟨L.blk 8 t,a,none⟩ (.int .i64 0)).alloc (.cells #[.int .i64 rc,.int .i64 rg] 101)).drew W→Calls Tryz.prog 51 #[.pointer (some ⟨L.blk 1 0,0,none⟩),.int .i64 t,.agg #[.int .i64 rc,.int .i64 rg],.int .i64 C] W fun e w'=>e=.returned (.tuple #[.int .i64 (Qs.look (m.waitsOf t) rc rg C (getWord m.cells rc.toNat C.toNat)),.int .i64 0])∧Mod noF ((w5.setCell ⟨L.blk 8 t,a,none⟩ (.int .i64 0)).alloc (.cells #[.int .i64 rc,.int .i64 rg] 101)).drew W∧Mod noF ((w5.setCell ⟨L.blk 8 t,a,none⟩ (.int .i64 0)).alloc (.cells #[.int .i64 rc,.int .i64 rg] 101)).drew w':=by
  intro W hW;have U:=U6.then0 hW;exact (load_ok (K:=allK) U.mach.rep rfl rfl rfl rfl rfl U.mach.om U.mach.ol (by omega) t (by have:=HX.out.ot.len;have e:((m.setPc t (h.pc+1)).setReg t a 0).waits=m.waits:=rfl;rw[e];omega) rc rg C (names_at Hn.out hC)).mono fun e w' ⟨he,hm⟩=>⟨he,hW,hW.trans0 hm⟩
 have hS:∀W,Mod noF ((w5.setCell ⟨L.blk 8 t,a,none⟩ (.int .i64 0)).alloc (.cells #[.int .i64 rc,.int .i64 rg] 101)).drew W→(Mod noF ((w5.setCell ⟨L.blk 8 t,a,none⟩ (.int .i64 0)).alloc (.cells #[.int .i64 rc,.int .i64 rg] 101)).drew W∧W.cell? ⟨L.blk 0 0,0,none⟩=some (.pointer (some ⟨L.blk 1 0,0,none⟩))∧W.cell? ⟨w5.heap.size,0,none⟩=some (.int .i64 rc)∧W.cell? ⟨w5.heap.size,1,none⟩=some (.int .i64 rg)∧W.cell? ⟨w1.heap.size,3,none⟩=some (.int .i64 C)):=by
  intro W hW;refine ⟨hW,hW.cell ?_ (fun e=>e),hW.cell ?_ (fun e=>e),hW.cell ?_ (fun e=>e),hW.cell ?_ (fun e=>e)⟩
  ·exact U6.mach.top.1
  ·rw[box_cell];rfl
  ·rw[box_cell];rfl
  ·have h3:(w5.setCell ⟨L.blk 8 t,a,none⟩ (.int .i64 0)).cell? ⟨w1.heap.size,3,none⟩=some (.int .i64 C):=by
    rw[World.cell?_setCell_far _ _ _ _ (by show L.blk 8 t≠w1.heap.size;omega)];exact w5b3
   have h4:=World.cell?_alloc_some _ ⟨w1.heap.size,3,none⟩ (.cells #[.int .i64 rc,.int .i64 rg] 101) (by rw[h3];rfl);exact h4.trans h3
 have hne:L.blk 8 t≠w1.heap.size:=by omega
 have Hne:=Lib.hid hne;have HB1:=Lib.hid w5b1;clear hne;have Hcall:=Lib.hid hcall;have HS:=Lib.hid hS;have HU6:=Lib.hid U6;clear hcall U6 hsz5 hS;go_wp2
 go_region_held3 (fun W=>Mod noF ((w5.setCell ⟨L.blk 8 t,a,none⟩ (.int .i64 0)).alloc (.cells #[.int .i64 rc,.int .i64 rg] 101)).drew W∧W.cell? ⟨L.blk 0 0,0,none⟩=some (.pointer (some ⟨L.blk 1 0,0,none⟩))∧W.cell? ⟨w5.heap.size,0,none⟩=some (.int .i64 rc)∧W.cell? ⟨w5.heap.size,1,none⟩=some (.int .i64 rg)∧W.cell? ⟨w1.heap.size,3,none⟩=some (.int .i64 C)) ((refine HS.out _ ?_;first|assumption|exact Mod.refl _ _)) (first|(go_at_call 51;go_split_ands;refine (Hcall.out _ ?_).mono ?_;assumption;rintro e w7 ⟨rfl,hm6,hm7⟩))
 clear pt0 pt5 pr0 pr1 pr2 pr4 pga0 pga1 w5b0 w5b1 w5b2 w5b3 w5b4 hs5;have X7:=HU6.out.mach.frame0 hm7;obtain ⟨q0,q1,q2,q3,q4,q5⟩:=X7.top;obtain ⟨k0,k1,k2,k3,k4⟩:=X7.thr_at (setReg_T (setPc_T Hh.out _) _ _);obtain ⟨l0,l1,l2⟩:=X7.reg_at (setReg_T (setPc_T Hh.out _) _ _) ha
 have u1:w7.cell? ⟨w1.heap.size,1,none⟩=some (.int .i64 a):=hm7.cell (box_far HB1.out Hne.out) (fun e=>e);have HX7:=Lib.hid X7;have Hm7:=Lib.hid hm7;clear X7 hm7 hm6 q4 k3 q1 q2 q3;go_wp2;go_ret;refine ⟨rfl,L,?_⟩
 have U8:=(HU6.out.then0 Hm7.out).trans (HX7.out.setReg (setReg_T (setPc_T Hh.out _) _ _) ha (Qs.look (m.waitsOf t) rc rg C (getWord m.cells rc.toNat C.toNat)) (look_word HX.out.om t rc rg C _ _));rw[setReg_setReg]at U8;exact U8
end Go.Proofs.YtciaficoeajeaaaGreatDoor
