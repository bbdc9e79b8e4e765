/- Texts that belong together, joined. -/
import Derived.Test.YtciaficoeajeaaaGreatDoorMSm3
import Derived.Test.YtciaficoeajeaaaGreatDoorMSStepA
import Derived.Test.YtciaficoeajeaaaGreatDoorMSStepB
import Derived.Test.YtciaficoeajeaaaGreatDoorMSStepC
import Derived.Test.YtciaficoeajeaaaGreatDoorMSStepD
import Derived.Test.YtciaficoeajeaaaGreatDoorMSStepE
import Derived.Test.YtciaficoeajeaaaGreatDoorMSm7
import Derived.Test.YtciaficoeajeaaaGreatDoorMSStepG
import Derived.Test.YtciaficoeajeaaaGreatDoorMSStepH
import Derived.Test.YtciaficoeajeaaaGreatDoorMSStepI
import Derived.Test.YtciaficoeajeaaaGreatDoorMSStepJ
import Derived.Test.YtciaficoeajeaaaGreatDoorMSStepL
import Derived.Test.YtciaficoeajeaaaGreatDoorMSStepM
import Derived.Test.YtciaficoeajeaaaGreatDoorMSStepN
import Derived.Test.YtciaficoeajeaaaGreatDoorMSStepO
import Derived.Test.YtciaficoeajeaaaGreatDoorMSStepP
import Derived.Test.YtciaficoeajeaaaGreatDoorMSStepR
import Derived.Test.YtciaficoeajeaaaGreatDoorMSPmNewC
set_option linter.unusedVariables false
set_option linter.unusedSimpArgs false
set_option linter.unusedSectionVars false
set_option maxHeartbeats 4000000
set_option maxRecDepth 100000
namespace Go.Proofs.YtciaficoeajeaaaGreatDoor
section
open Go.RowKit Qs Qh
variable {w:World}{L:Lay}{m:M}{N:Int}
def easyOp(_:Nat):Bool:=true
def Easy(m:M):Prop:=∀(t:Nat) h,m.T[t]?=some h→∀x∈h.code,easyOp x.op=true
theorem step_done(X:Mach ty w L m N)(t:Nat)(ht:t<m.T.length)(hd:m.done t=true) :
  Calls Tryz.prog 15 #[.pointer (some ⟨L.blk 0 0,0,none⟩),.int .i64 t] w fun e w'=>e=.returned (.int .i64 9)∧Mod noF w w':=by
 obtain ⟨t0,t1,t2,t3,t4,t5⟩:=X.top
 have d0:decide ((t:Int)<0)=false:=by simp
 have d1:decide ((m.T.length:Int)≤(t:Int))=false:=by simp;omega
 have HX:=Lib.hid X;have Hdone:=Lib.hid hd;clear X hd t4
 go_enter Tryz.func15,Tryz.ntmps15
 go_wp2_with fail
 refine (done_any HX.out t ht).mono ?_;rintro e w1 ⟨rfl,hm⟩;rw[Hdone.out];have Hm:=Lib.hid hm;clear hm;go_wp2;go_ret;exact ⟨rfl,Hm.out⟩
theorem step_out(X:Mach ty w L m N)(t:Int)(ht:t<0∨(m.T.length:Int)≤t) :
  Calls Tryz.prog 15 #[.pointer (some ⟨L.blk 0 0,0,none⟩),.int .i64 t] w fun e w'=>e=.returned (.int .i64 2)∧w=w':=by
 obtain ⟨t0,t1,t2,t3,t4,t5⟩:=X.top;clear X t4
 by_cases h:t<0
 ·have hd:decide (t<0)=true:=by simpa using h
  go_enter Tryz.func15,Tryz.ntmps15
  go_wp2;go_ret;exact ⟨rfl,rfl⟩
 ·have hd:decide (t<0)=false:=by simpa using h
  have hd2:decide ((m.T.length:Int)≤t)=true:=by simpa using ht.resolve_left h
  go_enter Tryz.func15,Tryz.ntmps15
  go_wp2;go_ret;exact ⟨rfl,rfl⟩
theorem reg_nat{n k:Int}(h:isReg n k):∃a:Nat,n=a∧(a:Int)<k:=by
 obtain ⟨h0,h1⟩:=h;obtain ⟨a,rfl⟩:=Int.eq_ofNat_of_zero_le h0;exact ⟨a,rfl,h1⟩
theorem names_nat{m:M}{n rc rg:Int}(h:m.names n=some (rc,rg)):∃k:Nat,rc=k∧k<m.cells.length:=by
 unfold M.names at h
 cases hr:refOf n with
 |none=>rw[hr]at h;cases h
 |some p=>
  obtain ⟨a,b⟩:=p;rw[hr]at h;simp only at h
  split at h
  ·rename_i hh
   cases h;obtain ⟨h0,h1,_⟩:=hereIn_ge hh;obtain ⟨k,rfl⟩:=Int.eq_ofNat_of_zero_le h0;exact ⟨k,rfl,by omega⟩
  ·cases h
theorem exec_mark_ok{m:M}{t a p:Nat}{B C:Int}{to:List UInt8}{h:Thr}(hh:m.T[t]?=some h)(h5:m.marks.length<500):(m.setPc t p).exec t ⟨18,a,B,C,to⟩ = {m.setPc t p with marks:=m.marks++[((t:Int),h.regs.getD a 0)]}:=by
 simp only[M.exec,thr_setPc hh,Thr.reg,Int.toNat_natCast];rw[if_pos (show (m.setPc t p).marks.length<500 from h5)];rfl
theorem exec_mark_full{m:M}{t a p:Nat}{B C:Int}{to:List UInt8}(h5:¬m.marks.length<500):(m.setPc t p).exec t ⟨18,a,B,C,to⟩=m.setPc t p:=by
 simp only[M.exec];rw[if_neg (show ¬(m.setPc t p).marks.length<500 from h5)]
def StepTold(w:World)(L:Lay)(m:M)(N:Int)(t:Nat):Prop:=
 Calls Tryz.prog 15 #[.pointer (some ⟨L.blk 0 0,0,none⟩),.int .i64 t] w fun e w'=>e=.returned (.int .i64 (m.step t).2)∧∃L',MUp ty w L m w' L' (m.step t).1 (N+48)
theorem told{t:Nat}{h:Thr}{x:Instr}(hh:m.T[t]?=some h)(hx:h.code[h.pc]?=some x)(h20:x.op≠20){m':M}{N':Int}(hN':N'≤N+48)(he:(m.setPc t (h.pc+1)).exec t x=m')
  (hc:Calls Tryz.prog 15 #[.pointer (some ⟨L.blk 0 0,0,none⟩),.int .i64 t] w fun e w'=>e=.returned (.int .i64 0)∧∃L',MUp ty w L m w' L' m' N'):StepTold w L m N t:=by
 unfold StepTold;rw[step_eq hh hx h20];refine hc.mono ?_;rintro e w' ⟨rfl,L',U⟩;refine ⟨rfl,L',?_⟩;rw[he];exact U.mono hN'
theorem step_any(X:Mach ty w L m N)(hE:Easy m)(hN:N≤10000000000)(t:Nat)(ht:t<m.T.length) :
  Calls Tryz.prog 15 #[.pointer (some ⟨L.blk 0 0,0,none⟩),.int .i64 t] w fun e w'=>e=.returned (.int .i64 (m.step t).2)∧∃L',MUp ty w L m w' L' (m.step t).1 (N+48):=by
 show StepTold w L m N t;obtain ⟨h,hh⟩:∃h,m.T[t]?=some h:=⟨_,List.getElem?_eq_getElem ht⟩
 cases hx:h.code[h.pc]? with
 |none=>
  have hs:=Qh.step_end hh hx
  have hd:m.done t=true:=by unfold M.done;rw[thr_of hh,hx]
  unfold StepTold;rw[hs];refine (step_done X t ht hd).mono ?_;rintro e w' ⟨rfl,hm⟩;exact ⟨rfl,L,(MUp.quiet X hm).mono (by omega)⟩
 |some x=>
  by_cases h20:x.op=20
  ·have hs:=step_stop hh hx h20
   have hd:m.done t=true:=by unfold M.done;rw[thr_of hh,hx];simp[h20]
   unfold StepTold;rw[hs];refine (step_done X t ht hd).mono ?_;rintro e w' ⟨rfl,hm⟩;exact ⟨rfl,L,(MUp.quiet X hm).mono (by omega)⟩
  ·have hmem:x∈h.code:=List.mem_of_getElem? hx;have hco:=(X.ot.code t h hh).2;have hi:=hco.ins x hmem;have hlab:=hco.lab x hmem;obtain ⟨op,A,B,C,to⟩:=x
   rcases op_cases op with rfl|rfl|rfl|rfl|rfl|rfl|rfl|rfl|rfl|rfl|rfl|rfl|rfl|rfl|rfl|rfl|rfl|rfl|rfl|rfl|hbig
   ·obtain ⟨h1,hB⟩:=hi;obtain ⟨a,rfl,ha⟩:=reg_nat h1;exact told hh hx h20 (by omega) (exec_const hh) (step_const (b:=0) (c:=0) (A:=0) X hN t ht hh hx (by omega) hB)
   ·obtain ⟨h1,h2⟩:=hi;obtain ⟨a,rfl,ha⟩:=reg_nat h1;obtain ⟨b,rfl,hb⟩:=reg_nat h2;exact told hh hx h20 (by omega) (exec_move hh) (step_move (c:=0) (A:=0) (B:=0) X hN t ht hh hx (by omega) (by omega))
   ·obtain ⟨h1,h2,h3⟩:=hi;obtain ⟨a,rfl,ha⟩:=reg_nat h1;obtain ⟨b,rfl,hb⟩:=reg_nat h2;obtain ⟨c,rfl,hc⟩:=reg_nat h3;exact told hh hx h20 (by omega) (exec_add hh) (step_add (A:=0) (B:=0) (C:=0) X hN t ht hh hx (by omega) (by omega) (by omega))
   ·obtain ⟨h1,h2,h3⟩:=hi;obtain ⟨a,rfl,ha⟩:=reg_nat h1;obtain ⟨b,rfl,hb⟩:=reg_nat h2;obtain ⟨c,rfl,hc⟩:=reg_nat h3;exact told hh hx h20 (by omega) (exec_sub hh) (step_sub (A:=0) (B:=0) (C:=0) X hN t ht hh hx (by omega) (by omega) (by omega))
   ·obtain ⟨h1,h2,h3⟩:=hi;obtain ⟨a,rfl,ha⟩:=reg_nat h1;obtain ⟨b,rfl,hb⟩:=reg_nat h2;obtain ⟨c,rfl,hc⟩:=reg_nat h3;exact told hh hx h20 (by omega) (exec_and hh) (step_and (A:=0) (B:=0) (C:=0) X hN t ht hh hx (by omega) (by omega) (by omega))
   ·obtain ⟨h1,h2,h3⟩:=hi;obtain ⟨a,rfl,ha⟩:=reg_nat h1;obtain ⟨b,rfl,hb⟩:=reg_nat h2;obtain ⟨c,rfl,hc⟩:=reg_nat h3;exact told hh hx h20 (by omega) (exec_xor hh) (step_xor (A:=0) (B:=0) (C:=0) X hN t ht hh hx (by omega) (by omega) (by omega))
   ·obtain ⟨h1,h2,h3⟩:=hi;obtain ⟨a,rfl,ha⟩:=reg_nat h1;obtain ⟨b,rfl,hb⟩:=reg_nat h2
    cases hn:m.names (h.regs.getD b 0)with
    |none=>exact told hh hx h20 (by omega) (exec_load_none hh hn) (step_load_none (c:=0) (A:=0) (B:=0) X hN t ht hh hx (by omega) (by omega) hn)
    |some r=>exact told hh hx h20 (by omega) (exec_load_ok hh (rc:=r.1) (rg:=r.2) hn) (step_load_ok (c:=0) (A:=0) (B:=0) X hN t ht hh hx (by omega) (by omega) h3 hn)
   ·obtain ⟨h1,h2,h3⟩:=hi;obtain ⟨a,rfl,ha⟩:=reg_nat h1;obtain ⟨b,rfl,hb⟩:=reg_nat h2
    cases hn:m.names (h.regs.getD a 0)with
    |none=>exact told hh hx h20 (by omega) (exec_store_none hh hn) (step_store_none (c:=0) (A:=0) (B:=0) X hN t ht hh hx (by omega) (by omega) hn)
    |some r=>
     obtain ⟨l,hl⟩:∃l,m.waits[t]?=some l:=⟨_,List.getElem?_eq_getElem (by rw[X.ot.len];exact ht)⟩;have h8:=X.om.wlen t l hl
     by_cases h9:l.length<8
     ·exact told hh hx h20 (by omega) (exec_store_ok hh (rc:=r.1) (rg:=r.2) hn hl h9) (step_store_ok (c:=0) (A:=0) (B:=0) X hN t ht hh hx (by omega) (by omega) h3 hn hl h9)
     ·obtain ⟨y,q,rfl⟩:∃y q,l=y :: q:=by
       cases l with
       |nil=>simp at h9
       |cons y q=>exact ⟨y,q,rfl⟩
      have h7:q.length=7:=by simp at h8 h9;omega
      cases hin:hereIn m.cells y.c y.g with
      |true=>exact told hh hx h20 (by omega) (exec_store_full hh (rc:=r.1) (rg:=r.2) hn hl h7 hin) (step_store_full_ok (c:=0) (A:=0) (B:=0) X hN t ht hh hx (by omega) (by omega) h3 hn hl h7 hin)
      |false=>exact told hh hx h20 (by omega) (exec_store_full_bad hh (rc:=r.1) (rg:=r.2) hn hl h7 hin) (step_store_full_bad (c:=0) (A:=0) (B:=0) X hN t ht hh hx (by omega) (by omega) h3 hn hl h7 hin)
   ·obtain ⟨h1,h2,h3⟩:=hi;obtain ⟨a,rfl,ha⟩:=reg_nat h1;obtain ⟨b,rfl,hb⟩:=reg_nat h2;obtain ⟨c,rfl,hc⟩:=reg_nat h3
    cases hn:m.names (h.regs.getD b 0)with
    |none=>exact told hh hx h20 (by omega) (exec_swap_none hh hn) (step_swap_none (c:=0) (A:=0) (B:=0) X hN t ht hh hx (by omega) (by omega) hn)
    |some r=>
     obtain ⟨rc,rg⟩:=r;obtain ⟨k,rfl,hk⟩:=names_nat hn;exact told hh hx h20 (by omega) (exec_swap_ok hh hn) (step_swap_ok (A:=0) (B:=0) (C:=0) X hN t ht hh hx (by omega) (by omega) (by omega) hk hn)
   ·obtain ⟨h1,h2,h3⟩:=hi;obtain ⟨a,rfl,ha⟩:=reg_nat h1;obtain ⟨b,rfl,hb⟩:=reg_nat h2;obtain ⟨c,rfl,hc⟩:=reg_nat h3
    cases hn:m.names (h.regs.getD a 0)with
    |none=>exact told hh hx h20 (by omega) (exec_cas_none hh hn) (step_cas_none (c:=0) (A:=0) (B:=0) X hN t ht hh hx (by omega) (by omega) hn)
    |some r=>
     obtain ⟨rc,rg⟩:=r;obtain ⟨k,rfl,hk⟩:=names_nat hn;exact told hh hx h20 (by omega) (exec_cas_ok hh hn) (step_cas_ok (A:=0) (B:=0) (C:=0) X hN t ht hh hx (by omega) (by omega) (by omega) (by omega) hk hn)
   ·obtain ⟨a,rfl,ha⟩:=reg_nat hi
    cases hal:allocAt m.cells 0 with
    |none=>exact told hh hx h20 (by omega) (exec_alloc_none hal) (step_alloc_none (b:=0) (c:=0) (A:=0) X hN t ht hh hx (by omega) hal)
    |some r=>exact told hh hx h20 (by omega) (exec_alloc_ok (i:=r.1) (n:=r.2) hal) (step_alloc_ok (b:=0) (c:=0) (A:=0) X hN t ht hh hx (by omega) hal)
   ·obtain ⟨a,rfl,ha⟩:=reg_nat hi
    cases hn:m.names (h.regs.getD a 0)with
    |none=>exact told hh hx h20 (by omega) (exec_free_none hh hn) (step_free_none (b:=0) (c:=0) (A:=0) X hN t ht hh hx (by omega) hn)
    |some r=>
     obtain ⟨rc,rg⟩:=r;obtain ⟨k,rfl,hk⟩:=names_nat hn;exact told hh hx h20 (by omega) (exec_free_ok hh hn) (step_free_ok (b:=0) (c:=0) (A:=0) X hN t ht hh hx (by omega) hk hn)
   ·exact told hh hx h20 (by omega) exec_fence (step_fence (a:=0) (b:=0) (c:=0) X hN t ht hh hx)
   ·exact told hh hx h20 (by omega) exec_force (step_force (a:=0) (b:=0) (c:=0) X hN t ht hh hx)
   ·obtain ⟨a,rfl,ha⟩:=reg_nat hi;obtain ⟨i,hi⟩:=Option.isSome_iff_exists.1 (hlab (.inl rfl))
    by_cases hz:h.regs.getD a 0=0
    ·exact told hh hx h20 (by omega) (exec_zero_yes hh hi hz) (step_zero_yes (b:=0) (c:=0) (A:=0) X hN t ht hh hx (by omega) hi hz)
    ·exact told hh hx h20 (by omega) (exec_zero_no hh hz) (step_zero_no (b:=0) (c:=0) (A:=0) X hN t ht hh hx (by omega) hz)
   ·obtain ⟨h1,h2⟩:=hi;obtain ⟨a,rfl,ha⟩:=reg_nat h1;obtain ⟨b,rfl,hb⟩:=reg_nat h2;obtain ⟨i,hi⟩:=Option.isSome_iff_exists.1 (hlab (.inr (.inl rfl)))
    by_cases hz:h.regs.getD a 0=h.regs.getD b 0
    ·exact told hh hx h20 (by omega) (exec_same_yes hh hi hz) (step_same_yes (c:=0) (A:=0) (B:=0) X hN t ht hh hx (by omega) (by omega) hi hz)
    ·exact told hh hx h20 (by omega) (exec_same_no hh hz) (step_same_no (c:=0) (A:=0) (B:=0) X hN t ht hh hx (by omega) (by omega) hz)
   ·obtain ⟨i,hi⟩:=Option.isSome_iff_exists.1 (hlab (.inr (.inr rfl)));exact told hh hx h20 (by omega) (exec_goto hh hi) (step_goto (a:=0) (b:=0) (c:=0) X hN t ht hh hx hi)
   ·exact told hh hx h20 (by omega) exec_label (step_label (a:=0) (b:=0) (c:=0) X hN t ht hh hx)
   ·obtain ⟨a,rfl,ha⟩:=reg_nat hi
    by_cases h5:m.marks.length<500
    ·exact told hh hx h20 (by omega) (exec_mark_ok hh h5) (step_mark (b:=0) (c:=0) (A:=0) X hN t ht hh hx (by omega) h5)
    ·exact told hh hx h20 (by omega) (exec_mark_full h5) (step_mark_full (b:=0) (c:=0) (A:=0) X hN t ht hh hx (by omega) h5)
   ·obtain ⟨a,rfl,ha⟩:=reg_nat hi;exact told hh hx h20 (by omega) (exec_need hh) (step_need (b:=0) (c:=0) (A:=0) X hN t ht hh hx (by omega))
   ·have h21:¬op=20:=h20;have:op≤20:=insOk_le hi;omega
end
section
open Go.RowKit Qs Qh
theorem pnew_mem(n:Int)(iw rw_ cw:Value)(init regs:List (List Int))(codes:List (List RI))(cv:Nat→Value)(w:World){a:Nat→Addr}(E:ErrsAt w a)(hI:RowsAt0 w iw init)(hR:RowsAt0 w rw_ regs)(hC:RCodesAt w cw codes cv)
  (h:n<1∨64<n∨codes.length<1∨6<codes.length) :
  Calls Tryz.prog 10 #[.agg #[.int .i64 n,iw,rw_],cw] w fun e w'=>e=.returned (.tuple #[.pointer none,errV a 1])∧Mod noF w w':=by
 obtain ⟨wz,hwz⟩:∃wz,wz=w.alloc (.cells #[.int .i64 n,iw,rw_] 34):=⟨_,rfl⟩
 have hmz:Mod noF w wz:=by rw[hwz];exact (Mod.refl noF w).alloc _
 have hcall:Calls Tryz.prog 32 #[.int .i64 n,.int .i64 codes.length] wz fun e w'=>e=.returned (.tuple #[.pointer none,errV a 1])∧Mod noF wz w':=by
  by_cases h2:n<1∨64<n
  ·exact pmNew_cells n codes.length h2 wz (E.keep hmz).four
  ·obtain ⟨k,rfl⟩:=Int.eq_ofNat_of_zero_le (show 0≤n by omega);exact pmNew_threads k codes.length (by omega) (by omega) (by omega) wz (E.keep hmz).four
 unfold errV at hcall;have Hcall:=Lib.hid hcall;clear hcall h;obtain ⟨ia,ic,rfl,-⟩:=hI;obtain ⟨ra,rc,rfl,-⟩:=hR;obtain ⟨ca,cc,rfl,-⟩:=hC;have HE:=Lib.hid E;clear E
 have s0:wz.cell? ⟨w.heap.size,0,none⟩=some (.int .i64 n):=by rw[hwz];simp
 have s1:wz.cell? ⟨w.heap.size,1,none⟩=some (.slice ia init.length ic):=by rw[hwz];simp
 have s2:wz.cell? ⟨w.heap.size,2,none⟩=some (.slice ra regs.length rc):=by rw[hwz];simp
 have sb:w.heap.size<wz.heap.size:=by rw[hwz];simp
 have Hmz:=Lib.hid hmz;clear hmz
 go_enter Tryz.func10,Tryz.ntmps10
 go_wp2_with fail
 rw[←hwz];clear hwz;refine Hcall.out.mono ?_;rintro e w1 ⟨rfl,hm1⟩;have Hm1:=Lib.hid hm1;clear hm1 s0 s1 s2;go_wp2;go_ret2;exact ⟨rfl,Hmz.out.trans0 Hm1.out⟩
theorem pnew_len1(n:Nat)(iw rw_ cw:Value)(init regs:List (List Int))(codes:List (List RI))(cv:Nat→Value)(w:World){a:Nat→Addr}(E:ErrsAt w a)(hI:RowsAt0 w iw init)(hR:RowsAt0 w rw_ regs)(hC:RCodesAt w cw codes cv)
  (h1:1≤n) (hn:n≤64) (hc1:1≤codes.length) (hc6:codes.length≤6) (h:(n:Int)<init.length) :
  Calls Tryz.prog 10 #[.agg #[.int .i64 n,iw,rw_],cw] w fun e w'=>e=.returned (.tuple #[.pointer none,errV a 1])∧Mod noF w w':=by
 obtain ⟨wz,hwz⟩:∃wz,wz=w.alloc (.cells #[.int .i64 n,iw,rw_] 34):=⟨_,rfl⟩
 have hmz:Mod noF w wz:=by rw[hwz];exact (Mod.refl noF w).alloc _
 obtain ⟨ia,ic,rfl,-⟩:=hI;obtain ⟨ra,rc,rfl,-⟩:=hR;obtain ⟨ca,cc,rfl,-⟩:=hC;have HE:=Lib.hid E;clear E
 have s0:wz.cell? ⟨w.heap.size,0,none⟩=some (.int .i64 n):=by rw[hwz];simp
 have s1:wz.cell? ⟨w.heap.size,1,none⟩=some (.slice ia init.length ic):=by rw[hwz];simp
 have s2:wz.cell? ⟨w.heap.size,2,none⟩=some (.slice ra regs.length rc):=by rw[hwz];simp
 have sb:w.heap.size<wz.heap.size:=by rw[hwz];simp
 have Hmz:=Lib.hid hmz;clear hmz
 have d1:decide ((init.length:Int)≤(n:Int))=false:=by simp;omega
 go_enter Tryz.func10,Tryz.ntmps10
 go_wp2_with fail
 rw[←hwz];clear hwz;refine (pmNew_ok n codes.length h1 hn hc1 hc6 wz).mono ?_;rintro e w1 ⟨P,rfl,-,hm1,-⟩;have q0:=hm1.cell s0 (fun e=>e);have q1:=hm1.cell s1 (fun e=>e);have q2:=hm1.cell s2 (fun e=>e);have qb:=Nat.lt_of_lt_of_le sb hm1.size;have v1:=(HE.out.keep (Hmz.out.trans0 hm1)).v1
 have Hm1:=Lib.hid hm1;clear hm1 s0 s1 s2;go_wp2
 go_quiet (fail)
 go_wp2;go_ret2;exact ⟨rfl,by first|exact (Hmz.out.trans0 Hm1.out).drewN _|exact (Hmz.out.trans0 Hm1.out).drew|exact Hmz.out.trans0 Hm1.out⟩
theorem pnew_len2(n:Nat)(iw rw_ cw:Value)(init regs:List (List Int))(codes:List (List RI))(cv:Nat→Value)(w:World){a:Nat→Addr}(E:ErrsAt w a)(hI:RowsAt0 w iw init)(hR:RowsAt0 w rw_ regs)(hC:RCodesAt w cw codes cv)
  (h1:1≤n) (hn:n≤64) (hc1:1≤codes.length) (hc6:codes.length≤6) (hin:init.length≤n) (h:codes.length<regs.length) :
  Calls Tryz.prog 10 #[.agg #[.int .i64 n,iw,rw_],cw] w fun e w'=>e=.returned (.tuple #[.pointer none,errV a 1])∧Mod noF w w':=by
 obtain ⟨wz,hwz⟩:∃wz,wz=w.alloc (.cells #[.int .i64 n,iw,rw_] 34):=⟨_,rfl⟩
 have hmz:Mod noF w wz:=by rw[hwz];exact (Mod.refl noF w).alloc _
 obtain ⟨ia,ic,rfl,-⟩:=hI;obtain ⟨ra,rc,rfl,-⟩:=hR;obtain ⟨ca,cc,rfl,-⟩:=hC;have HE:=Lib.hid E;clear E
 have s0:wz.cell? ⟨w.heap.size,0,none⟩=some (.int .i64 n):=by rw[hwz];simp
 have s1:wz.cell? ⟨w.heap.size,1,none⟩=some (.slice ia init.length ic):=by rw[hwz];simp
 have s2:wz.cell? ⟨w.heap.size,2,none⟩=some (.slice ra regs.length rc):=by rw[hwz];simp
 have sb:w.heap.size<wz.heap.size:=by rw[hwz];simp
 have Hmz:=Lib.hid hmz;clear hmz
 have d1:decide ((init.length:Int)≤(n:Int))=true:=by simp;omega
 have d2:decide ((regs.length:Int)≤(codes.length:Int))=false:=by simp;omega
 go_enter Tryz.func10,Tryz.ntmps10
 go_wp2_with fail
 rw[←hwz];clear hwz;refine (pmNew_ok n codes.length h1 hn hc1 hc6 wz).mono ?_;rintro e w1 ⟨P,rfl,-,hm1,-⟩;have q0:=hm1.cell s0 (fun e=>e);have q1:=hm1.cell s1 (fun e=>e);have q2:=hm1.cell s2 (fun e=>e);have qb:=Nat.lt_of_lt_of_le sb hm1.size;have v1:=(HE.out.keep (Hmz.out.trans0 hm1)).v1
 have Hm1:=Lib.hid hm1;clear hm1 s0 s1 s2;go_wp2
 go_quiet (fail)
 go_wp2;go_ret2;exact ⟨rfl,by first|exact (Hmz.out.trans0 Hm1.out).drewN _|exact (Hmz.out.trans0 Hm1.out).drew|exact Hmz.out.trans0 Hm1.out⟩
theorem pnew_row1(n:Nat)(iw rw_ cw:Value)(init regs:List (List Int))(codes:List (List RI))(cv:Nat→Value)(w:World){a:Nat→Addr}(E:ErrsAt w a)(hI:RowsAt0 w iw init)(hR:RowsAt0 w rw_ regs)(hC:RCodesAt w cw codes cv)
  (h1:1≤n) (hn:n≤64) (hc1:1≤codes.length) (hc6:codes.length≤6) (hin:init.length≤n) (hrc:regs.length≤codes.length) (hi:init.all (rightB 4)=false) :
  Calls Tryz.prog 10 #[.agg #[.int .i64 n,iw,rw_],cw] w fun e w'=>e=.returned (.tuple #[.pointer none,errV a 1])∧Mod noF w w':=by
 obtain ⟨wz,hwz⟩:∃wz,wz=w.alloc (.cells #[.int .i64 n,iw,rw_] 34):=⟨_,rfl⟩
 have hmz:Mod noF w wz:=by rw[hwz];exact (Mod.refl noF w).alloc _
 have hci1:∀W,Mod noF wz W→Calls Tryz.prog 33 #[iw,.func (.func 34) #[] #[]] W fun e w'=>e=.returned (.bool true)∧W=w':=fun W hW=>
  (containsR1 W iw init (rows_keep0 hI (hmz.trans0 hW)) (by omega)).mono fun e w' h=>⟨by rw[h.1,hi];rfl,h.2⟩
 have Hci1:=Lib.hid hci1;clear hci1;obtain ⟨ia,ic,rfl,-⟩:=hI;obtain ⟨ra,rc,rfl,-⟩:=hR;obtain ⟨ca,cc,rfl,-⟩:=hC;have HE:=Lib.hid E;clear E
 have s0:wz.cell? ⟨w.heap.size,0,none⟩=some (.int .i64 n):=by rw[hwz];simp
 have s1:wz.cell? ⟨w.heap.size,1,none⟩=some (.slice ia init.length ic):=by rw[hwz];simp
 have s2:wz.cell? ⟨w.heap.size,2,none⟩=some (.slice ra regs.length rc):=by rw[hwz];simp
 have sb:w.heap.size<wz.heap.size:=by rw[hwz];simp
 have Hmz:=Lib.hid hmz;clear hmz
 have d1:decide ((init.length:Int)≤(n:Int))=true:=by simp;omega
 have d2:decide ((regs.length:Int)≤(codes.length:Int))=true:=by simp;omega
 go_enter Tryz.func10,Tryz.ntmps10
 go_wp2_with fail
 rw[←hwz];clear hwz;refine (pmNew_ok n codes.length h1 hn hc1 hc6 wz).mono ?_;rintro e w1 ⟨P,rfl,-,hm1,-⟩;have q0:=hm1.cell s0 (fun e=>e);have q1:=hm1.cell s1 (fun e=>e);have q2:=hm1.cell s2 (fun e=>e);have qb:=Nat.lt_of_lt_of_le sb hm1.size;have v1:=(HE.out.keep (Hmz.out.trans0 hm1)).v1
 have Hm1:=Lib.hid hm1;clear hm1 s0 s1 s2
 go_wp2_with fail
 refine (Hci1.out w1 Hm1.out).mono ?_;rintro e w' ⟨rfl,rfl⟩;go_wp2
 go_quiet (fail)
 go_wp2;go_ret2;exact ⟨rfl,by first|exact (Hmz.out.trans0 Hm1.out).drewN _|exact (Hmz.out.trans0 Hm1.out).drew|exact Hmz.out.trans0 Hm1.out⟩
theorem pnew_row2(n:Nat)(iw rw_ cw:Value)(init regs:List (List Int))(codes:List (List RI))(cv:Nat→Value)(w:World){a:Nat→Addr}(E:ErrsAt w a)(hI:RowsAt0 w iw init)(hR:RowsAt0 w rw_ regs)(hC:RCodesAt w cw codes cv)
  (h1:1≤n) (hn:n≤64) (hc1:1≤codes.length) (hc6:codes.length≤6) (hin:init.length≤n) (hrc:regs.length≤codes.length) (hi:init.all (rightB 4)=true) (hr:regs.all (rightB 8)=false) :
  Calls Tryz.prog 10 #[.agg #[.int .i64 n,iw,rw_],cw] w fun e w'=>e=.returned (.tuple #[.pointer none,errV a 1])∧Mod noF w w':=by
 obtain ⟨wz,hwz⟩:∃wz,wz=w.alloc (.cells #[.int .i64 n,iw,rw_] 34):=⟨_,rfl⟩
 have hmz:Mod noF w wz:=by rw[hwz];exact (Mod.refl noF w).alloc _
 have hci1:∀W,Mod noF wz W→Calls Tryz.prog 33 #[iw,.func (.func 34) #[] #[]] W fun e w'=>e=.returned (.bool false)∧W=w':=fun W hW=>
  (containsR1 W iw init (rows_keep0 hI (hmz.trans0 hW)) (by omega)).mono fun e w' h=>⟨by rw[h.1,hi];rfl,h.2⟩
 have Hci1:=Lib.hid hci1;clear hci1
 have hci2:∀W,Mod noF wz W→Calls Tryz.prog 33 #[rw_,.func (.func 36) #[] #[]] W fun e w'=>e=.returned (.bool true)∧W=w':=fun W hW=>
  (containsR2 W rw_ regs (rows_keep0 hR (hmz.trans0 hW)) (by omega)).mono fun e w' h=>⟨by rw[h.1,hr];rfl,h.2⟩
 have Hci2:=Lib.hid hci2;clear hci2;obtain ⟨ia,ic,rfl,-⟩:=hI;obtain ⟨ra,rc,rfl,-⟩:=hR;obtain ⟨ca,cc,rfl,-⟩:=hC;have HE:=Lib.hid E;clear E
 have s0:wz.cell? ⟨w.heap.size,0,none⟩=some (.int .i64 n):=by rw[hwz];simp
 have s1:wz.cell? ⟨w.heap.size,1,none⟩=some (.slice ia init.length ic):=by rw[hwz];simp
 have s2:wz.cell? ⟨w.heap.size,2,none⟩=some (.slice ra regs.length rc):=by rw[hwz];simp
 have sb:w.heap.size<wz.heap.size:=by rw[hwz];simp
 have Hmz:=Lib.hid hmz;clear hmz
 have d1:decide ((init.length:Int)≤(n:Int))=true:=by simp;omega
 have d2:decide ((regs.length:Int)≤(codes.length:Int))=true:=by simp;omega
 go_enter Tryz.func10,Tryz.ntmps10
 go_wp2_with fail
 rw[←hwz];clear hwz;refine (pmNew_ok n codes.length h1 hn hc1 hc6 wz).mono ?_;rintro e w1 ⟨P,rfl,-,hm1,-⟩;have q0:=hm1.cell s0 (fun e=>e);have q1:=hm1.cell s1 (fun e=>e);have q2:=hm1.cell s2 (fun e=>e);have qb:=Nat.lt_of_lt_of_le sb hm1.size;have v1:=(HE.out.keep (Hmz.out.trans0 hm1)).v1
 have Hm1:=Lib.hid hm1;clear hm1 s0 s1 s2
 go_wp2_with fail
 refine (Hci1.out w1 Hm1.out).mono ?_;rintro e w' ⟨rfl,rfl⟩
 go_wp2_with fail
 refine (Hci2.out w1 Hm1.out).mono ?_;rintro e w' ⟨rfl,rfl⟩;go_wp2
 go_quiet (fail)
 go_wp2;go_ret2;exact ⟨rfl,by first|exact (Hmz.out.trans0 Hm1.out).drewN _|exact (Hmz.out.trans0 Hm1.out).drew|exact Hmz.out.trans0 Hm1.out⟩
theorem rows_fine{k:Nat}{ll:List (List Int)}(h:ll.all (rightB k)=true):RowsFine k ll:=fun l hl=>by
 have:=List.all_eq_true.1 h l hl;unfold rightB at this;rw[Bool.and_eq_true,decide_eq_true_eq,List.all_eq_true]at this;exact this
def ShapeR(n:Int)(init regs:List (List Int))(codes:List (List RI)):Prop:=
 1≤n∧n≤64∧1≤codes.length∧codes.length≤6∧(init.length:Int)≤n∧regs.length≤codes.length∧init.all (rightB 4)=true∧regs.all (rightB 8)=true
theorem pnew_any(n:Int)(iw rw_ cw:Value)(init regs:List (List Int))(codes:List (List RI))(cv:Nat→Value)(w:World){a:Nat→Addr}(E:ErrsAt w a)(hI:RowsAt0 w iw init)(hR:RowsAt0 w rw_ regs)(hC:RCodesAt w cw codes cv)
  (lk:∀l∈codes,l.length≤maxLen) :
  Calls Tryz.prog 10 #[.agg #[.int .i64 n,iw,rw_],cw] w fun e w'=>
   (¬ShapeR n init regs codes∧e=.returned (.tuple #[.pointer none,errV a 1])∧Mod noF w w')∨(∃k:Nat,n=k∧ShapeR n init regs codes∧(NewBad w a codes e w'∨NewGood w k init regs codes e w')):=by
 by_cases h0:n<1∨64<n∨codes.length<1∨6<codes.length
 ·exact (pnew_mem n iw rw_ cw init regs codes cv w E hI hR hC h0).mono fun e w' h=>.inl ⟨fun s=>by have:=s.1;have:=s.2.1;have:=s.2.2.1;have:=s.2.2.2.1;omega,h⟩
 ·obtain ⟨k,rfl⟩:=Int.eq_ofNat_of_zero_le (show 0≤n by omega)
  by_cases h1:(k:Int)<init.length
  ·exact (pnew_len1 k iw rw_ cw init regs codes cv w E hI hR hC (by omega) (by omega) (by omega) (by omega) h1).mono fun e w' h=>.inl ⟨fun s=>by have:=s.2.2.2.2.1;omega,h⟩
  ·by_cases h2:codes.length<regs.length
   ·exact (pnew_len2 k iw rw_ cw init regs codes cv w E hI hR hC (by omega) (by omega) (by omega) (by omega) (by omega) h2).mono fun e w' h=>.inl ⟨fun s=>by have:=s.2.2.2.2.2.1;omega,h⟩
   ·cases h3:init.all (rightB 4)with
    |false=>exact (pnew_row1 k iw rw_ cw init regs codes cv w E hI hR hC (by omega) (by omega) (by omega) (by omega) (by omega) (by omega) h3).mono fun e w' h=>.inl ⟨fun s=>(by have:=s.2.2.2.2.2.2.1;rw[h3]at this;cases this),h⟩
    |true=>
     cases h4:regs.all (rightB 8)with
     |false=>exact (pnew_row2 k iw rw_ cw init regs codes cv w E hI hR hC (by omega) (by omega) (by omega) (by omega) (by omega) (by omega) h3 h4).mono fun e w' h=>.inl ⟨fun s=>(by have:=s.2.2.2.2.2.2.2;rw[h4]at this;cases this),h⟩
     |true=>exact (pnew_main k iw rw_ cw init regs codes cv w E hI hR hC lk (by omega) (by omega) (by omega) (by omega) (by omega) (by omega) h3 h4 (rows_fine h3) (rows_fine h4)).mono fun e w' h=>.inr ⟨k,rfl,⟨by omega,by omega,by omega,by omega,by omega,by omega,h3,h4⟩,h⟩
end
end Go.Proofs.YtciaficoeajeaaaGreatDoor
