/- (*quiescentref1.Machine).Step, instruction by instruction: fence, label, need. -/
import Derived.Test.YtciaficoeajeaaaGreatDoorMRm7
import Derived.Test.YtciaficoeajeaaaGreatDoorMRm2
import Derived.Test.YtciaficoeajeaaaGreatDoorMRm3
import Derived.StillTailTactics
set_option linter.unusedVariables false
set_option linter.unusedSimpArgs false
set_option linter.unusedSectionVars false
set_option maxHeartbeats 4000000
set_option maxRecDepth 100000
namespace Go.Proofs.YtciaficoeajeaaaGreatDoor
open Go.RowKit Qs Qh
variable {w:World}{L:Lay}{m:M}{N:Int}
theorem step_label(X:Mach ty w L m N)(hN:N≤10000000000)(t:Nat)(ht:t<m.T.length){h:Thr}(hh:m.T[t]?=some h){a b c:Nat}{A B C:Int}{to:List UInt8}(hx:h.code[h.pc]?=some ⟨17,A,B,C,to⟩) :
  Calls Tryz.prog 15 #[.pointer (some ⟨L.blk 0 0,0,none⟩),.int .i64 t] w fun e w'=>e=.returned (.int .i64 0)∧∃L',MUp ty w L m w' L' (m.setPc t (h.pc+1)) N:=by
 have hthr:m.thr t=h:=by simp[M.thr,List.getD,hh]
 have hdone:m.done t=false:=by unfold M.done;rw[hthr,hx];rfl
 obtain ⟨t0,t1,t2,t3,t4,t5⟩:=X.top
 have ht6:m.T.length≤6:=by have:=X.om.waits;have:=X.ot.len;omega
 have hsp:=X.olt.sp4;have hsp8:=X.olt.sp8 t ht
 have d0:decide ((t:Int)<0)=false:=by simp
 have d1:decide ((m.T.length:Int)≤(t:Int))=false:=by simp;omega
 have HX:=Lib.hid X;have Hh:=Lib.hid hh;have Hx:=Lib.hid hx;have Hthr:=Lib.hid hthr;have Hdone:=Lib.hid hdone;clear X hh hx hthr hdone t4
 go_enter Tryz.func15,Tryz.ntmps15
 go_wp2_with fail
 refine (done_any HX.out t ht).mono ?_;rintro e w1 ⟨rfl,hm⟩;rw[Hdone.out];have X1:=HX.out.frame0 hm;have HX1:=Lib.hid X1;have Hm:=Lib.hid hm;clear t0 t1 t2 t3 t5;obtain ⟨t0,t1,t2,t3,t4,t5⟩:=X1.top;obtain ⟨r0,r1,r2,r3,r4⟩:=X1.thr_at Hh.out;obtain ⟨cb,off,cc,e,hcb,hcell⟩:=code_cell X1 Hh.out Hx.out
 rw[e]at r0;obtain ⟨hpc,hco⟩:=X1.ot.code t h Hh.out;have hlen:=hco.len;have hlt:h.pc<h.code.length:=(List.getElem?_eq_some_iff.1 Hx.out).1;have c0:=hcell 0 _ rfl;have c1:=hcell 1 _ rfl;have c2:=hcell 2 _ rfl;have c3:=hcell 3 _ rfl;have c4:=hcell 4 _ rfl
 simp only[Nat.add_zero,opStr,iv,sv]at c0 c1 c2 c3 c4;generalize hd4:(⟨to.toArray⟩:ByteArray)=dto at *;have Hd4:=Lib.hid hd4;have f4:=r3 (t*3+2);have n48:L.blk 4 0≠L.blk 8 t:=X1.ne (by rw[obj4 ty m X1.olt.n4];rfl) (by rw[obj8 ty (X1.olt.n8 t ht) Hh.out];rfl) (by omega)
 have n04:L.blk 0 0≠L.blk 4 0:=X1.ne rfl (by rw[obj4 ty m X1.olt.n4];rfl) (by omega);have n08:L.blk 0 0≠L.blk 8 t:=X1.ne rfl (by rw[obj8 ty (X1.olt.n8 t ht) Hh.out];rfl) (by omega);have He:=Lib.hid e;clear hm X1 e hpc hco hcell t4 r3 hd4;go_wp2
 go_region
 go_wp2;go_ret;exact ⟨rfl,L,MUp.then0 ((MUp.quiet HX.out Hm.out).trans (HX1.out.pc Hh.out hlt)) (by repeat (first|exact Mod.refl _ _|refine Mod.drew ?_|refine Mod.drewN ?_ _|refine Mod.alloc ?_ _))⟩
theorem step_need(X:Mach ty w L m N)(hN:N≤10000000000)(t:Nat)(ht:t<m.T.length){h:Thr}(hh:m.T[t]?=some h){a b c:Nat}{A B C:Int}{to:List UInt8}(hx:h.code[h.pc]?=some ⟨19,a,B,C,to⟩)(ha:a<8) :
  Calls Tryz.prog 15 #[.pointer (some ⟨L.blk 0 0,0,none⟩),.int .i64 t] w fun e w'=>e=.returned (.int .i64 0)∧∃L',MUp ty w L m w' L' (needM m t (h.pc+1) (h.regs.getD a 0)) (N+1):=by
 have hthr:m.thr t=h:=by simp[M.thr,List.getD,hh]
 have hdone:m.done t=false:=by unfold M.done;rw[hthr,hx];rfl
 obtain ⟨t0,t1,t2,t3,t4,t5⟩:=X.top
 have ht6:m.T.length≤6:=by have:=X.om.waits;have:=X.ot.len;omega
 have hsp:=X.olt.sp4;have hsp8:=X.olt.sp8 t ht
 have d0:decide ((t:Int)<0)=false:=by simp
 have d1:decide ((m.T.length:Int)≤(t:Int))=false:=by simp;omega
 have HX:=Lib.hid X;have Hh:=Lib.hid hh;have Hx:=Lib.hid hx;have Hthr:=Lib.hid hthr;have Hdone:=Lib.hid hdone;clear X hh hx hthr hdone t4
 go_enter Tryz.func15,Tryz.ntmps15
 go_wp2_with fail
 refine (done_any HX.out t ht).mono ?_;rintro e w1 ⟨rfl,hm⟩;rw[Hdone.out];have X1:=HX.out.frame0 hm;have HX1:=Lib.hid X1;have Hm:=Lib.hid hm;clear t0 t1 t2 t3 t5;obtain ⟨t0,t1,t2,t3,t4,t5⟩:=X1.top;obtain ⟨r0,r1,r2,r3,r4⟩:=X1.thr_at Hh.out;obtain ⟨cb,off,cc,e,hcb,hcell⟩:=code_cell X1 Hh.out Hx.out
 rw[e]at r0;obtain ⟨hpc,hco⟩:=X1.ot.code t h Hh.out;have hlen:=hco.len;have hlt:h.pc<h.code.length:=(List.getElem?_eq_some_iff.1 Hx.out).1;have c0:=hcell 0 _ rfl;have c1:=hcell 1 _ rfl;have c2:=hcell 2 _ rfl;have c3:=hcell 3 _ rfl;have c4:=hcell 4 _ rfl
 simp only[Nat.add_zero,opStr,iv,sv]at c0 c1 c2 c3 c4;generalize hd4:(⟨to.toArray⟩:ByteArray)=dto at *;have Hd4:=Lib.hid hd4;obtain ⟨ga0,ga1,ga2⟩:=X1.reg_at Hh.out ha;have wa:=X1.regWord Hh.out ha;generalize hva:h.regs.getD a 0=va at *;obtain ⟨wa0,wa1⟩:=of_isWord wa;have Hva:=Lib.hid hva
 have Hwa:=Lib.hid wa;clear hva wa;have f4:=r3 (t*3+2);have n48:L.blk 4 0≠L.blk 8 t:=X1.ne (by rw[obj4 ty m X1.olt.n4];rfl) (by rw[obj8 ty (X1.olt.n8 t ht) Hh.out];rfl) (by omega);have n04:L.blk 0 0≠L.blk 4 0:=X1.ne rfl (by rw[obj4 ty m X1.olt.n4];rfl) (by omega)
 have n08:L.blk 0 0≠L.blk 8 t:=X1.ne rfl (by rw[obj8 ty (X1.olt.n8 t ht) Hh.out];rfl) (by omega);have He:=Lib.hid e;clear hm X1 e hpc hco hcell t4 r3 hd4;have t43:=HX1.out.top.2.2.2.2.1 3;have hf:=HX1.out.ot.f0
 by_cases hz:va=0
 ·subst hz;go_wp2
  go_region
  go_wp2;go_ret;refine ⟨rfl,L,?_⟩;unfold needM;rw[if_pos Hva.out];exact MUp.then0 ((MUp.quiet HX.out Hm.out).trans (HX1.out.pcFaultQ Hh.out hlt (Mod.refl _ _))) (by repeat (first|exact Mod.refl _ _|refine Mod.drew ?_|refine Mod.drewN ?_ _|refine Mod.alloc ?_ _))
 ·have hdz:(va==0)=false:=by simpa using hz
  go_wp2
  go_region
  go_wp2;go_ret;refine ⟨rfl,L,?_⟩;unfold needM;rw[if_neg (by rw[Hva.out];exact hz)];exact MUp.then0 (((MUp.quiet HX.out Hm.out).trans (HX1.out.pc Hh.out hlt)).mono1) (by repeat (first|exact Mod.refl _ _|refine Mod.drew ?_|refine Mod.drewN ?_ _|refine Mod.alloc ?_ _))
end Go.Proofs.YtciaficoeajeaaaGreatDoor
