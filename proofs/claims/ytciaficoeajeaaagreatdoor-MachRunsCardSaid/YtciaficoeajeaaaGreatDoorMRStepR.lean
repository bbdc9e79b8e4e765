/- (*quiescentref1.Machine).Step: mark. -/
import Derived.Test.YtciaficoeajeaaaGreatDoorMRm7
import Derived.Test.YtciaficoeajeaaaGreatDoorMRm2
import Derived.Test.YtciaficoeajeaaaGreatDoorMRm3
import Derived.StillTailTactics
set_option linter.unusedVariables false
set_option linter.unusedSimpArgs false
set_option linter.unusedSectionVars false
set_option maxHeartbeats 4000000
set_option maxRecDepth 100000
namespace Go.Proofs.YtciaficoeajeaaaGreatDoor
open Go.RowKit Qs Qh
variable {w:World}{L:Lay}{m:M}{N:Int}
theorem markInfo:(Tryz.prog.info? 132).map (fun i=>(i.zero,i.size,i.bytes))=some (some (.agg #[.int .i64 0,.int .i64 0]),2,16):=by kernel_rfl
theorem step_mark(X:Mach ty w L m N)(hN:N≤10000000000)(t:Nat)(ht:t<m.T.length){h:Thr}(hh:m.T[t]?=some h){a b c:Nat}{A B C:Int}{to:List UInt8}(hx:h.code[h.pc]?=some ⟨18,a,B,C,to⟩)(ha:a<8)(h5:m.marks.length<500) :
  Calls Tryz.prog 15 #[.pointer (some ⟨L.blk 0 0,0,none⟩),.int .i64 t] w fun e w'=>e=.returned (.int .i64 0)∧∃L',MUp ty w L m w' L' {m.setPc t (h.pc+1)with marks:=m.marks++[((t:Int),h.regs.getD a 0)]} N:=by
 have hthr:m.thr t=h:=by simp[M.thr,List.getD,hh]
 have hdone:m.done t=false:=by unfold M.done;rw[hthr,hx];rfl
 obtain ⟨t0,t1,t2,t3,t4,t5⟩:=X.top
 have ht6:m.T.length≤6:=by have:=X.om.waits;have:=X.ot.len;omega
 have hsp:=X.olt.sp4;have hsp8:=X.olt.sp8 t ht
 have d0:decide ((t:Int)<0)=false:=by simp
 have d1:decide ((m.T.length:Int)≤(t:Int))=false:=by simp;omega
 have HX:=Lib.hid X;have Hh:=Lib.hid hh;have Hx:=Lib.hid hx;have Hthr:=Lib.hid hthr;have Hdone:=Lib.hid hdone;clear X hh hx hthr hdone t4
 go_enter Tryz.func15,Tryz.ntmps15
 go_wp2_with fail
 refine (done_any HX.out t ht).mono ?_;rintro e w1 ⟨rfl,hm⟩;rw[Hdone.out];have X1:=HX.out.frame0 hm;have HX1:=Lib.hid X1;have Hm:=Lib.hid hm;clear t0 t1 t2 t3 t5;obtain ⟨t0,t1,t2,t3,t4,t5⟩:=X1.top;obtain ⟨r0,r1,r2,r3,r4⟩:=X1.thr_at Hh.out;obtain ⟨cb,off,cc,e,hcb,hcell⟩:=code_cell X1 Hh.out Hx.out
 rw[e]at r0;obtain ⟨hpc,hco⟩:=X1.ot.code t h Hh.out;have hlen:=hco.len;have hlt:h.pc<h.code.length:=(List.getElem?_eq_some_iff.1 Hx.out).1;have c0:=hcell 0 _ rfl;have c1:=hcell 1 _ rfl;have c2:=hcell 2 _ rfl;have c3:=hcell 3 _ rfl;have c4:=hcell 4 _ rfl
 simp only[Nat.add_zero,opStr,iv,sv]at c0 c1 c2 c3 c4;generalize hd4:(⟨to.toArray⟩:ByteArray)=dto at *;have Hd4:=Lib.hid hd4;obtain ⟨ga0,ga1,ga2⟩:=X1.reg_at Hh.out ha;have wa:=X1.regWord Hh.out ha;generalize hva:h.regs.getD a 0=va at *;obtain ⟨wa0,wa1⟩:=of_isWord wa;have Hva:=Lib.hid hva
 have Hwa:=Lib.hid wa;clear hva wa;have f4:=r3 (t*3+2);have n48:L.blk 4 0≠L.blk 8 t:=X1.ne (by rw[obj4 ty m X1.olt.n4];rfl) (by rw[obj8 ty (X1.olt.n8 t ht) Hh.out];rfl) (by omega);have n04:L.blk 0 0≠L.blk 4 0:=X1.ne rfl (by rw[obj4 ty m X1.olt.n4];rfl) (by omega)
 have n08:L.blk 0 0≠L.blk 8 t:=X1.ne rfl (by rw[obj8 ty (X1.olt.n8 t ht) Hh.out];rfl) (by omega);have He:=Lib.hid e;clear hm X1 e hpc hco hcell t4 r3 hd4
 have hrow:∃sa sb sc,L.row 5 0 m.marks.length=.slice sa sb sc∧sb=m.marks.length:=by
  unfold Lay.row
  cases h:L.nil 5 0 with
  |true=>exact ⟨none,0,0,rfl,by rw[HX1.out.olt.n5 h];rfl⟩
  |false=>exact ⟨_,_,_,rfl,rfl⟩
 obtain ⟨sa,sb,sc,hrow,rfl⟩:=hrow;have hown:=HX1.out.owns5;rw[hrow]at t2 hown
 have dm:decide ((m.marks.length:Int)<500)=true:=by simp;omega
 have Hrow:=Lib.hid hrow;have Hown:=Lib.hid hown;clear hrow hown;obtain ⟨i0,hi,hz0,hz1,hz2⟩:=info_parts markInfo
 have hbnd:(m.marks.length+1)≤maxLen:=by unfold maxLen;omega
 go_wp2
 go_region
 go_wp2;obtain ⟨wq,hwq⟩:∃wq,wq=((w1.setCell ⟨L.blk 4 0,t*3+2,none⟩ (.int .i64 (h.pc+1))).alloc (.cells #[.string ⟨#[109,97,114,107]⟩,.int .i64 a,.int .i64 B,.int .i64 C,.string dto] 73)).drew:=⟨_,rfl⟩;rw[←hwq]
 have hMq:Mod (fun x=>x=L.blk 4 0) w1 wq:=by rw[hwq];exact ((Mod.setCell (F:=fun x=>x=L.blk 4 0) (a:=w1) (p:=⟨L.blk 4 0,t*3+2,none⟩) (Mod.refl _ w1) (fun _=>rfl) _).alloc _).drew
 have hnew:wq.heap[w1.heap.size]?=some (.cells #[.string ⟨#[109,97,114,107]⟩,.int .i64 a,.int .i64 B,.int .i64 C,.string dto] 73 (0,0)):=by
  rw[hwq]
  have e:(w1.setCell ⟨L.blk 4 0,t*3+2,none⟩ (.int .i64 (h.pc+1))).heap.size=w1.heap.size:=by simp[World.setCell]
  rw[←e];exact heap_alloc_new _ _
 have XU:MUp ty w1 L m wq L (m.setPc t (h.pc+1)) N:=by
  rw[hwq];exact MUp.then0 (HX1.out.pc Hh.out hlt) (by repeat (first|exact Mod.refl _ _|refine Mod.drew ?_|refine Mod.drewN ?_ _|refine Mod.alloc ?_ _))
 have q2:=hMq.cell t2 n04;have qa:=hMq.cell ga0 (fun e=>n48 e.symm);have qx:wq.cell? ⟨w1.heap.size,1,none⟩=some (.int .i64 a):=(cell_of_heap hnew 1).trans rfl;have qs:=hMq.size;have qxb:=lt_of_block hnew
 have q0b:L.blk 0 0<wq.heap.size:=by have:=XU.mach.top.2.2.2.2.2;exact this
 have hai:(a:Int)<8:=by omega
 have q8b:L.blk 8 t<wq.heap.size:=by omega
 have qf:=XU.mach.top.2.2.2.2.1;have qf2:=qf 2;have n5:L.nil 5 0=false→L.blk 5 0≠L.blk 0 0:=fun hn=>HX1.out.ne (by rw[obj5 ty m hn];rfl) rfl (by omega);have n54:L.nil 5 0=false→L.blk 5 0≠L.blk 4 0:=fun hn=>HX1.out.ne (by rw[obj5 ty m hn];rfl) (by rw[obj4 ty m HX1.out.olt.n4];rfl) (by omega)
 have hownq:=owns_mod5 Hown.out hMq (fun g hg e=>by
  have:=row_own (L:=L) (k:=5) (i:=0) (n:=m.marks.length) (by rw[Hrow.out];exact hg)
  exact n54 this.1 (this.2.symm.trans e))
 have Hownq:=Lib.hid hownq;have HXU:=Lib.hid XU;have Hn5:=Lib.hid n5;have Hqf:=Lib.hid qf;have HMq:=Lib.hid hMq;clear hwq hMq hnew XU hownq n5 n54 qf t2 ga0 t0 t1 t3 t5 r0 r1 r2 c0 c1 c2 c3 c4 f4 n48 n04 n08 ga1 ga2
 go_region_law (refine step_append_mine _ rfl (.tmp 538) (.tmp 546) 51 rfl 132 i0 (.agg #[.int .i64 0,.int .i64 0]) 2 16 Tryz.underlying51 hi hz0 hz1 hz2 rfl (by decide) _ m.marks.length (flat markVals 0 m.marks) rfl (by exact Hownq.out.alloc _) ⟨wq.heap.size,0,none⟩ 1 1 [.int .i64 t,.int .i64 va] rfl rfl (new_cells wq _ _) (ints_one [(t:Int),va]) hbnd (by omega) ?_;intro v1 w2 hown2 hgr2 hfr2 _)
 all_goals
  have hmod2:Mod (fun x=>L.nil 5 0=false∧x=L.blk 5 0) wq w2:=(((Mod.refl _ wq).alloc _).drew).grown hgr2 (fun k hk _=>row_own (by rw[Hrow.out];exact hk));have p2:=hmod2.cell q2 (fun h=>Hn5.out h.1 h.2.symm)
  have p2b:L.blk 0 0<w2.heap.size:=by have:=hmod2.size;omega
  have p2f:w2.frozen? ⟨L.blk 0 0,2,none⟩=false:=free_of_heap (hmod2.heap (HXU.out.mach.rep.at_ 0 0 _ _ rfl (obj0 ty L _)) (fun h=>Hn5.out h.1 h.2.symm)) 2;have Hown2:=Lib.hid hown2;have Hfr2:=Lib.hid hfr2;have Hmod2:=Lib.hid hmod2;clear hmod2 hown2 hgr2 hfr2 q2 qa qx qf2
  obtain ⟨xa,xb,xc,rfl⟩:=slice_of_own Hown2.out;go_wp2;go_ret;refine ⟨rfl,?_⟩;obtain ⟨L',hL'⟩:=HXU.out.mach.addMark (x:=((t:Int),va)) Hmod2.out (by rw[flat_mark_snoc];exact Hown2.out) (fun g hg=>(Hfr2.out g hg).imp (fun e=>row_own (by rw[Hrow.out];exact e)) (fun e=>by simp at e;omega)) h5
  refine ⟨L',?_⟩;rw[Hva.out];exact MUp.then0 (((MUp.quiet HX.out Hm.out).trans HXU.out).trans hL') (by repeat (first|exact Mod.refl _ _|refine Mod.drew ?_|refine Mod.drewN ?_ _|refine Mod.alloc ?_ _))
end Go.Proofs.YtciaficoeajeaaaGreatDoor
