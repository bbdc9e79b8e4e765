/- (*quiescentref1.Machine).Step, instruction by instruction: store behind eight, the first one drained. -/
import Derived.Test.YtciaficoeajeaaaGreatDoorMRm7
import Derived.Test.YtciaficoeajeaaaGreatDoorMRm2
import Derived.Test.YtciaficoeajeaaaGreatDoorMRm3
import Derived.StillTailTactics
import Derived.Test.YtciaficoeajeaaaGreatDoorMRStore
set_option linter.unusedVariables false
set_option linter.unusedSimpArgs false
set_option linter.unusedSectionVars false
set_option maxHeartbeats 4000000
set_option maxRecDepth 100000
namespace Go.Proofs.YtciaficoeajeaaaGreatDoor
open Go.RowKit Qs Qh
variable {w:World}{L:Lay}{m:M}{N:Int}
theorem step_store_full_ok(X:Mach ty w L m N)(hN:N≤10000000000)(t:Nat)(ht:t<m.T.length){h:Thr}(hh:m.T[t]?=some h){a b c:Nat}{A B C:Int}{to:List UInt8}(hx:h.code[h.pc]?=some ⟨7,a,b,C,to⟩)(ha:a<8)(hb:b<8)(hC:0≤C∧C<4){rc rg:Int}(hn:m.names (h.regs.getD a 0)=some (rc,rg)){x:Wt}{r:List Wt}(hl:m.waits[t]?=some (x :: r))(hr7:r.length=7)(hin:hereIn m.cells x.c x.g=true) :
  Calls Tryz.prog 15 #[.pointer (some ⟨L.blk 0 0,0,none⟩),.int .i64 t] w fun e w'=>e=.returned (.int .i64 0)∧∃L',MUp ty w L m w' L' (putM ({(m.setPc t (h.pc+1))with cells:=(drain1 m.cells x).1,waits:=m.waits.set t r}:M) t ⟨rc,rg,C,h.regs.getD b 0⟩) (N+1):=by
 have hthr:m.thr t=h:=by simp[M.thr,List.getD,hh]
 have hdone:m.done t=false:=by unfold M.done;rw[hthr,hx];rfl
 obtain ⟨t0,t1,t2,t3,t4,t5⟩:=X.top
 have ht6:m.T.length≤6:=by have:=X.om.waits;have:=X.ot.len;omega
 have hsp:=X.olt.sp4;have hsp8:=X.olt.sp8 t ht
 have d0:decide ((t:Int)<0)=false:=by simp
 have d1:decide ((m.T.length:Int)≤(t:Int))=false:=by simp;omega
 have HX:=Lib.hid X;have Hh:=Lib.hid hh;have Hx:=Lib.hid hx;have Hthr:=Lib.hid hthr;have Hdone:=Lib.hid hdone;clear X hh hx hthr hdone t4;have Hn:=Lib.hid hn;have Hl:=Lib.hid hl;have Hin:=Lib.hid hin;clear hn hl hin
 go_enter Tryz.func15,Tryz.ntmps15
 go_wp2_with fail
 refine (done_any HX.out t ht).mono ?_;rintro e w1 ⟨rfl,hm⟩;rw[Hdone.out];have X1:=HX.out.frame0 hm;have HX1:=Lib.hid X1;have Hm:=Lib.hid hm;clear t0 t1 t2 t3 t5;obtain ⟨t0,t1,t2,t3,t4,t5⟩:=X1.top;obtain ⟨r0,r1,r2,r3,r4⟩:=X1.thr_at Hh.out;obtain ⟨cb,off,cc,e,hcb,hcell⟩:=code_cell X1 Hh.out Hx.out
 rw[e]at r0;obtain ⟨hpc,hco⟩:=X1.ot.code t h Hh.out;have hlen:=hco.len;have hlt:h.pc<h.code.length:=(List.getElem?_eq_some_iff.1 Hx.out).1;have c0:=hcell 0 _ rfl;have c1:=hcell 1 _ rfl;have c2:=hcell 2 _ rfl;have c3:=hcell 3 _ rfl;have c4:=hcell 4 _ rfl
 simp only[Nat.add_zero,opStr,iv,sv]at c0 c1 c2 c3 c4;generalize hd4:(⟨to.toArray⟩:ByteArray)=dto at *;have Hd4:=Lib.hid hd4;obtain ⟨ga0,ga1,ga2⟩:=X1.reg_at Hh.out ha;have wa:=X1.regWord Hh.out ha;generalize hva:h.regs.getD a 0=va at *;obtain ⟨wa0,wa1⟩:=of_isWord wa;have Hva:=Lib.hid hva
 have Hwa:=Lib.hid wa;clear hva wa;obtain ⟨gb0,gb1,gb2⟩:=X1.reg_at Hh.out hb;have wb:=X1.regWord Hh.out hb;generalize hvb:h.regs.getD b 0=vb at *;obtain ⟨wb0,wb1⟩:=of_isWord wb;have Hvb:=Lib.hid hvb;have Hwb:=Lib.hid wb;clear hvb wb;have f4:=r3 (t*3+2)
 have n48:L.blk 4 0≠L.blk 8 t:=X1.ne (by rw[obj4 ty m X1.olt.n4];rfl) (by rw[obj8 ty (X1.olt.n8 t ht) Hh.out];rfl) (by omega);have n04:L.blk 0 0≠L.blk 4 0:=X1.ne rfl (by rw[obj4 ty m X1.olt.n4];rfl) (by omega)
 have n08:L.blk 0 0≠L.blk 8 t:=X1.ne rfl (by rw[obj8 ty (X1.olt.n8 t ht) Hh.out];rfl) (by omega);have He:=Lib.hid e;clear hm X1 e hpc hco hcell t4 r3 hd4
 have iA:(a:Int)<8:=by omega
 have iB:(b:Int)<8:=by omega
 have iA0:(0:Int)≤(a:Int):=by omega
 have iB0:(0:Int)≤(b:Int):=by omega
 go_wp2
 go_region
 have U0:=MUp.then0 ((MUp.quiet HX.out Hm.out).trans (HX1.out.pc Hh.out hlt)) (w3:=((w1.setCell ⟨L.blk 4 0,t*3+2,none⟩ (.int .i64 ((h.pc:Int)+1))).alloc (.cells #[.string ⟨#[115,116,111,114,101]⟩,.int .i64 a,.int .i64 b,.int .i64 C,.string dto] 73)).drew) (by repeat (first|exact Mod.refl _ _|refine Mod.drew ?_|refine Mod.drewN ?_ _|refine Mod.alloc ?_ _))
 have hbx:∀k,Foot ty allK L (m.setPc t (h.pc+1)) k→k<w1.heap.size:=fun k hk=>by
  have:=(HX1.out.pc Hh.out hlt).mach.rep.lt hk
  simpa using this
 have HU0:=Lib.hid U0;have Hbx:=Lib.hid hbx;clear U0 hbx
 go_wp2_with fail
 refine (names_ok HU0.out.mach (by omega) va Hwa.out Hn.out).mono ?_;rintro e w5 ⟨rfl,hm5⟩;have X5:=HU0.out.mach.frame0 hm5;have w5b0:w5.cell? ⟨w1.heap.size,0,none⟩=some (.string ⟨#[115,116,111,114,101]⟩):=hm5.cell (by rw[box_cell];rfl) (fun e=>e)
 have w5b1:w5.cell? ⟨w1.heap.size,1,none⟩=some (.int .i64 a):=hm5.cell (by rw[box_cell];rfl) (fun e=>e);have w5b2:w5.cell? ⟨w1.heap.size,2,none⟩=some (.int .i64 b):=hm5.cell (by rw[box_cell];rfl) (fun e=>e)
 have w5b3:w5.cell? ⟨w1.heap.size,3,none⟩=some (.int .i64 C):=hm5.cell (by rw[box_cell];rfl) (fun e=>e);have w5b4:w5.cell? ⟨w1.heap.size,4,none⟩=some (.string dto):=hm5.cell (by rw[box_cell];rfl) (fun e=>e);obtain ⟨pt0,pt1,pt2,pt3,pt4,pt5⟩:=X5.top
 obtain ⟨pr0,pr1,pr2,pr3,pr4⟩:=X5.thr_at (setPc_T Hh.out _);obtain ⟨pgb0,pgb1,pgb2⟩:=X5.reg_at (setPc_T Hh.out _) hb
 have hs5:w1.heap.size<w5.heap.size:=by have:=hm5.size;simp at this;omega
 rw[show ({h with pc:=h.pc+1}:Thr).regs.getD b 0=h.regs.getD b 0 from rfl,Hvb.out]at pgb0;have pw0:w5.cell? ⟨L.blk 1 0,1,none⟩=some (.slice (some ⟨L.blk 3 0,0,none⟩) m.waits.length (m.waits.length+L.sp 3 0)):=X5.rep.waits_at rfl X5.ol
 have pw1:w5.cell? ⟨L.blk 3 0,t,none⟩=some (L.row 7 t ((x :: r)).length):=waits_row X5.rep rfl X5.ol (t:=t) (l:=(x :: r)) Hl.out;obtain ⟨ra,rcp,hrow⟩:=row_slice X5.ol (t:=t) (l:=(x :: r)) Hl.out;rw[hrow]at pw1;have pl1:=X5.rep.lt1 rfl;have pl3:=X5.rep.lt3 rfl X5.ol
 have iT:(t:Int)<(m.waits.length:Int):=by have:=HX.out.ot.len;omega
 have iT0:(0:Int)≤(t:Int):=by omega
 have HX5:=Lib.hid X5;have Hm5:=Lib.hid hm5;clear X5 hm5 hrow pt4 pr3 pt1 pt2 pt3 t0 t1 t2 t3 r0 r1 r2 c0 c1 c2 c3 c4 ga0 ga1 gb0 gb1
 have hd8:decide (8≤(((x :: r).length:Nat):Int))=true:=by simp;omega
 have hd8':(8:Int)≤(((x :: r).length:Nat):Int):=by simp;omega
 have hat:atE (drain1 m.cells x).1 rc rg C=0:=names_at_drain Hn.out hC;have Hat:=Lib.hid hat;clear hat
 go_wp2_with fail
 have Xc:=HX5.out.frame0 ((Mod.refl _ w5).alloc (.cells #[.int .i64 rc,.int .i64 rg] 101));refine (drain_some Xc.rep rfl rfl rfl rfl rfl Xc.om Xc.ol (by omega) t (x:=x) (r:=r) Hl.out).mono ?_;rintro e w6 ⟨rfl,L6,hU6⟩
 rw[show drainE (m.setPc t (h.pc+1)).cells x=0 from by show drainE m.cells x=_;unfold drainE;rw[Hin.out];rfl];have hval:=HX.out.om.wval t _ Hl.out
 have om6:OkM N ({(m.setPc t (h.pc+1))with cells:=(drain1 m.cells x).1,waits:=m.waits.set t r}:M):=
  (OkM.drain1 (m:=m.setPc t (h.pc+1)) Xc.om (hval x (by simp)).1).setWaits (by have:=HX.out.om.wlen t _ Hl.out;simp at this;omega) (fun y hy=>by
   have:=hval y (by simp[hy])
   exact ⟨this.1,this.2.1,this.2.2.1,this.2.2.2.1,by show y.c<((drain1 m.cells x).1.length:Int);rw[drain1_length];exact this.2.2.2.2.1,this.2.2.2.2.2.1,this.2.2.2.2.2.2⟩)
 have U6:=Xc.up (m':=({(m.setPc t (h.pc+1))with cells:=(drain1 m.cells x).1,waits:=m.waits.set t r}:M)) (Int.le_refl N) hU6 om6 rfl rfl rfl (by show (m.waits.set t r).length=m.waits.length;simp);have E6:=hU6.ext;have X6:=U6.mach;have e00:=U6.top.1;have e10:=U6.top.2
 have e30:L6.blk 3 0=L.blk 3 0:=(E6.same 3 0 (by omega) (by omega)).1;have e80:L6.blk 8 t=L.blk 8 t:=(E6.same 8 t (by omega) (by omega)).1;obtain ⟨q0,q1,q2,q3,q4,q5⟩:=X6.top;have q43:=q4 3
 have hT6:({(m.setPc t (h.pc+1))with cells:=(drain1 m.cells x).1,waits:=m.waits.set t r}:M).T[t]?=some {h with pc:=h.pc+1}:=setPc_T Hh.out _
 have hl6:({(m.setPc t (h.pc+1))with cells:=(drain1 m.cells x).1,waits:=m.waits.set t r}:M).waits[t]?=some r:=by
  show (m.waits.set t r)[t]?=some r
  have:t<m.waits.length:=by omega
  simp[this]
 have z0:w6.cell? ⟨L6.blk 1 0,1,none⟩=some (.slice (some ⟨L6.blk 3 0,0,none⟩) ({(m.setPc t (h.pc+1))with cells:=(drain1 m.cells x).1,waits:=m.waits.set t r}:M).waits.length (({(m.setPc t (h.pc+1))with cells:=(drain1 m.cells x).1,waits:=m.waits.set t r}:M).waits.length+L6.sp 3 0)):=X6.rep.waits_at rfl X6.ol
 have z1:=waits_row X6.rep rfl X6.ol (t:=t) (l:=r) hl6;have kb:=(X6.reg_at hT6 hb);rw[show ({h with pc:=h.pc+1}:Thr).regs.getD b 0=h.regs.getD b 0 from rfl,Hvb.out]at kb;obtain ⟨kb0,kb1,kb2⟩:=kb;rw[e80]at kb0 kb1 kb2;rw[e00]at q0 q3 q43 q5;rw[e10]at q0 z0
 have y0:w6.cell? ⟨w5.heap.size,0,none⟩=some (.int .i64 rc):=U6.mod.cell (World.cell?_alloc_new w5 _ _ 0) (fun hf=>by have:=Hbx.out _ hf;simp at this;omega)
 have y1:w6.cell? ⟨w5.heap.size,1,none⟩=some (.int .i64 rg):=U6.mod.cell (World.cell?_alloc_new w5 _ _ 1) (fun hf=>by have:=Hbx.out _ hf;simp at this;omega)
 have v1:w6.cell? ⟨w1.heap.size,1,none⟩=some (.int .i64 a):=U6.mod.cell ((World.cell?_alloc_some w5 _ _ (by rw[w5b1];rfl)).trans w5b1) (fun hf=>by have:=Hbx.out _ hf;simp at this)
 have v2:w6.cell? ⟨w1.heap.size,2,none⟩=some (.int .i64 b):=U6.mod.cell ((World.cell?_alloc_some w5 _ _ (by rw[w5b2];rfl)).trans w5b2) (fun hf=>by have:=Hbx.out _ hf;simp at this)
 have v3:w6.cell? ⟨w1.heap.size,3,none⟩=some (.int .i64 C):=U6.mod.cell ((World.cell?_alloc_some w5 _ _ (by rw[w5b3];rfl)).trans w5b3) (fun hf=>by have:=Hbx.out _ hf;simp at this);have HX6:=Lib.hid X6;have HU6:=Lib.hid U6;have HT6:=Lib.hid hT6;have Hl6:=Lib.hid hl6;have HE00:=Lib.hid e00
 have HE10:=Lib.hid e10;clear X6 U6 hU6 E6 e00 e10 e30 e80 q1 q2 q4 z0 z1 hT6 hl6 om6 hval Xc w5b0 w5b1 w5b2 w5b3 w5b4 pw0 pw1 pt0 pt5 pr0 pr1 pr2 pr4 pgb0 pgb1
 have Uall:=(HU0.out.then0 Hm5.out).trans ((MUp.quiet HX5.out ((Mod.refl _ w5).alloc (.cells #[.int .i64 rc,.int .i64 rg] 101))).trans HU6.out);have Uf:MUp ty w L m w6 L6 ({(m.setPc t (h.pc+1))with cells:=(drain1 m.cells x).1,waits:=m.waits.set t r}:M) (N+1):=Uall.mono1
 have HUf:=Lib.hid Uf;obtain ⟨hfa0,hfa1⟩:0≤(m.setPc t (h.pc+1)).faults∧(m.setPc t (h.pc+1)).faults≤N:=HX5.out.ot.f0;clear Uf Uall
 have hcall:∀W,Mod noF w6 W→Calls Tryz.prog 53 #[.pointer (some ⟨L.blk 1 0,0,none⟩),.int .i64 t,.agg #[.int .i64 rc,.int .i64 rg],.int .i64 C,.int .i64 vb] W fun e w'=>e=.returned (.int .i64 0)∧∃L',MUp ty w L m w' L' (putM ({(m.setPc t (h.pc+1))with cells:=(drain1 m.cells x).1,waits:=m.waits.set t r}:M) t ⟨rc,rg,C,vb⟩) (N+1):=by
  intro W hW;have Uc:=HUf.out.then0 hW;have Xc:=Uc.mach;have hc2:=store_ok (K:=allK) Xc.rep rfl rfl rfl rfl Xc.om Xc.ol (by omega) t rc rg C vb (l:=r) Hl6.out (by omega) Hat.out Hwb.out;rw[HE10.out]at hc2;refine hc2.mono ?_;rintro e w' ⟨he,L',hU⟩;refine ⟨he,L',?_⟩
  have om5:=Xc.om.put (t:=t) (l:=r) Hl6.out (by omega) (x:=⟨rc,rg,C,vb⟩) (by
   have:=names_ok_wt HX.out.om (n:=va) Hn.out hC Hwb.out
   exact ⟨this.1,this.2.1,this.2.2.1,this.2.2.2.1,by show rc<((drain1 m.cells x).1.length:Int);rw[drain1_length];exact this.2.2.2.2.1,this.2.2.2.2.2.1,by show rg≤N+1;omega⟩)
  rw[putM_eq (m:=({(m.setPc t (h.pc+1))with cells:=(drain1 m.cells x).1,waits:=m.waits.set t r}:M)) Hl6.out];exact Uc.trans (Xc.up (Int.le_refl _) hU om5 rfl rfl rfl (by show ((m.waits.set t r).set t _).length=(m.waits.set t r).length;simp))
 have Hcall:=Lib.hid hcall;clear hcall;go_wp2;refine wp_region_still_tail 13 (by kernel_rfl) (by kernel_rfl) ?_;simp only[List.take_succ_cons,List.take_zero,List.drop_succ_cons,List.drop_zero,World.drew_eq]
 repeat still_step
 refine wpStill_nil ?_
 go_wp2_with fail
 refine (Hcall.out _ (by repeat (first|exact Mod.refl _ _|refine Mod.drew ?_|refine Mod.drewN ?_ _|refine Mod.alloc ?_ _))).mono ?_;rintro e w7 ⟨rfl,L7,U7⟩;have HU7:=Lib.hid U7;clear U7;go_wp2;go_ret;refine ⟨rfl,L7,?_⟩;rw[Hvb.out];exact HU7.out
end Go.Proofs.YtciaficoeajeaaaGreatDoor
