/- Texts that belong together, joined. -/
import Derived.Test.YtciaficoeajeaaaGreatDoorMRm3
import Derived.Test.YtciaficoeajeaaaGreatDoorMRStepA
import Derived.Test.YtciaficoeajeaaaGreatDoorMRStepB
import Derived.Test.YtciaficoeajeaaaGreatDoorMRStepC
import Derived.Test.YtciaficoeajeaaaGreatDoorMRStepD
import Derived.Test.YtciaficoeajeaaaGreatDoorMRStepE
import Derived.Test.YtciaficoeajeaaaGreatDoorMRm7
import Derived.Test.YtciaficoeajeaaaGreatDoorMRStepG
import Derived.Test.YtciaficoeajeaaaGreatDoorMRStepH
import Derived.Test.YtciaficoeajeaaaGreatDoorMRStepI
import Derived.Test.YtciaficoeajeaaaGreatDoorMRStepJ
import Derived.Test.YtciaficoeajeaaaGreatDoorMRStepL
import Derived.Test.YtciaficoeajeaaaGreatDoorMRStepM
import Derived.Test.YtciaficoeajeaaaGreatDoorMRStepN
import Derived.Test.YtciaficoeajeaaaGreatDoorMRStepO
import Derived.Test.YtciaficoeajeaaaGreatDoorMRStepP
import Derived.Test.YtciaficoeajeaaaGreatDoorMRStepR
import Derived.Test.YtciaficoeajeaaaGreatDoorMRPmNewC
import Derived.Test.YtciaficoeajeaaaGreatDoorMRm6
import Derived.Test.YtciaficoeajeaaaGreatDoorMRm5
import Derived.Outline
import Derived.Test.YtciaficoeajeaaaGreatDoorMRm2
set_option linter.unusedVariables false
set_option linter.unusedSimpArgs false
set_option linter.unusedSectionVars false
set_option maxHeartbeats 16000000
set_option maxRecDepth 100000
namespace Go.Proofs.YtciaficoeajeaaaGreatDoor
section
open Go.RowKit Qs Qh
variable {w:World}{L:Lay}{m:M}{N:Int}
def easyOp(_:Nat):Bool:=true
def Easy(m:M):Prop:=∀(t:Nat) h,m.T[t]?=some h→∀x∈h.code,easyOp x.op=true
theorem step_done(X:Mach ty w L m N)(t:Nat)(ht:t<m.T.length)(hd:m.done t=true) :
  Calls Tryz.prog 15 #[.pointer (some ⟨L.blk 0 0,0,none⟩),.int .i64 t] w fun e w'=>e=.returned (.int .i64 9)∧Mod noF w w':=by
 obtain ⟨t0,t1,t2,t3,t4,t5⟩:=X.top
 have d0:decide ((t:Int)<0)=false:=by simp
 have d1:decide ((m.T.length:Int)≤(t:Int))=false:=by simp;omega
 have HX:=Lib.hid X;have Hdone:=Lib.hid hd;clear X hd t4
 go_enter Tryz.func15,Tryz.ntmps15
 go_wp2_with fail
 refine (done_any HX.out t ht).mono ?_;rintro e w1 ⟨rfl,hm⟩;rw[Hdone.out];have Hm:=Lib.hid hm;clear hm;go_wp2;go_ret;exact ⟨rfl,Hm.out⟩
theorem reg_nat{n k:Int}(h:isReg n k):∃a:Nat,n=a∧(a:Int)<k:=by
 obtain ⟨h0,h1⟩:=h;obtain ⟨a,rfl⟩:=Int.eq_ofNat_of_zero_le h0;exact ⟨a,rfl,h1⟩
theorem names_nat{m:M}{n rc rg:Int}(h:m.names n=some (rc,rg)):∃k:Nat,rc=k∧k<m.cells.length:=by
 unfold M.names at h
 cases hr:refOf n with
 |none=>rw[hr]at h;cases h
 |some p=>
  obtain ⟨a,b⟩:=p;rw[hr]at h;simp only at h
  split at h
  ·rename_i hh
   cases h;obtain ⟨h0,h1,_⟩:=hereIn_ge hh;obtain ⟨k,rfl⟩:=Int.eq_ofNat_of_zero_le h0;exact ⟨k,rfl,by omega⟩
  ·cases h
theorem exec_mark_ok{m:M}{t a p:Nat}{B C:Int}{to:List UInt8}{h:Thr}(hh:m.T[t]?=some h)(h5:m.marks.length<500):(m.setPc t p).exec t ⟨18,a,B,C,to⟩ = {m.setPc t p with marks:=m.marks++[((t:Int),h.regs.getD a 0)]}:=by
 simp only[M.exec,thr_setPc hh,Thr.reg,Int.toNat_natCast];rw[if_pos (show (m.setPc t p).marks.length<500 from h5)];rfl
theorem exec_mark_full{m:M}{t a p:Nat}{B C:Int}{to:List UInt8}(h5:¬m.marks.length<500):(m.setPc t p).exec t ⟨18,a,B,C,to⟩=m.setPc t p:=by
 simp only[M.exec];rw[if_neg (show ¬(m.setPc t p).marks.length<500 from h5)]
def StepTold(w:World)(L:Lay)(m:M)(N:Int)(t:Nat):Prop:=
 Calls Tryz.prog 15 #[.pointer (some ⟨L.blk 0 0,0,none⟩),.int .i64 t] w fun e w'=>e=.returned (.int .i64 (m.step t).2)∧∃L',MUp ty w L m w' L' (m.step t).1 (N+48)
theorem told{t:Nat}{h:Thr}{x:Instr}(hh:m.T[t]?=some h)(hx:h.code[h.pc]?=some x)(h20:x.op≠20){m':M}{N':Int}(hN':N'≤N+48)(he:(m.setPc t (h.pc+1)).exec t x=m')
  (hc:Calls Tryz.prog 15 #[.pointer (some ⟨L.blk 0 0,0,none⟩),.int .i64 t] w fun e w'=>e=.returned (.int .i64 0)∧∃L',MUp ty w L m w' L' m' N'):StepTold w L m N t:=by
 unfold StepTold;rw[step_eq hh hx h20];refine hc.mono ?_;rintro e w' ⟨rfl,L',U⟩;refine ⟨rfl,L',?_⟩;rw[he];exact U.mono hN'
theorem step_any(X:Mach ty w L m N)(hE:Easy m)(hN:N≤10000000000)(t:Nat)(ht:t<m.T.length) :
  Calls Tryz.prog 15 #[.pointer (some ⟨L.blk 0 0,0,none⟩),.int .i64 t] w fun e w'=>e=.returned (.int .i64 (m.step t).2)∧∃L',MUp ty w L m w' L' (m.step t).1 (N+48):=by
 show StepTold w L m N t;obtain ⟨h,hh⟩:∃h,m.T[t]?=some h:=⟨_,List.getElem?_eq_getElem ht⟩
 cases hx:h.code[h.pc]? with
 |none=>
  have hs:=Qh.step_end hh hx
  have hd:m.done t=true:=by unfold M.done;rw[thr_of hh,hx]
  unfold StepTold;rw[hs];refine (step_done X t ht hd).mono ?_;rintro e w' ⟨rfl,hm⟩;exact ⟨rfl,L,(MUp.quiet X hm).mono (by omega)⟩
 |some x=>
  by_cases h20:x.op=20
  ·have hs:=step_stop hh hx h20
   have hd:m.done t=true:=by unfold M.done;rw[thr_of hh,hx];simp[h20]
   unfold StepTold;rw[hs];refine (step_done X t ht hd).mono ?_;rintro e w' ⟨rfl,hm⟩;exact ⟨rfl,L,(MUp.quiet X hm).mono (by omega)⟩
  ·have hmem:x∈h.code:=List.mem_of_getElem? hx;have hco:=(X.ot.code t h hh).2;have hi:=hco.ins x hmem;have hlab:=hco.lab x hmem;obtain ⟨op,A,B,C,to⟩:=x
   rcases op_cases op with rfl|rfl|rfl|rfl|rfl|rfl|rfl|rfl|rfl|rfl|rfl|rfl|rfl|rfl|rfl|rfl|rfl|rfl|rfl|rfl|hbig
   ·obtain ⟨h1,hB⟩:=hi;obtain ⟨a,rfl,ha⟩:=reg_nat h1;exact told hh hx h20 (by omega) (exec_const hh) (step_const (b:=0) (c:=0) (A:=0) X hN t ht hh hx (by omega) hB)
   ·obtain ⟨h1,h2⟩:=hi;obtain ⟨a,rfl,ha⟩:=reg_nat h1;obtain ⟨b,rfl,hb⟩:=reg_nat h2;exact told hh hx h20 (by omega) (exec_move hh) (step_move (c:=0) (A:=0) (B:=0) X hN t ht hh hx (by omega) (by omega))
   ·obtain ⟨h1,h2,h3⟩:=hi;obtain ⟨a,rfl,ha⟩:=reg_nat h1;obtain ⟨b,rfl,hb⟩:=reg_nat h2;obtain ⟨c,rfl,hc⟩:=reg_nat h3;exact told hh hx h20 (by omega) (exec_add hh) (step_add (A:=0) (B:=0) (C:=0) X hN t ht hh hx (by omega) (by omega) (by omega))
   ·obtain ⟨h1,h2,h3⟩:=hi;obtain ⟨a,rfl,ha⟩:=reg_nat h1;obtain ⟨b,rfl,hb⟩:=reg_nat h2;obtain ⟨c,rfl,hc⟩:=reg_nat h3;exact told hh hx h20 (by omega) (exec_sub hh) (step_sub (A:=0) (B:=0) (C:=0) X hN t ht hh hx (by omega) (by omega) (by omega))
   ·obtain ⟨h1,h2,h3⟩:=hi;obtain ⟨a,rfl,ha⟩:=reg_nat h1;obtain ⟨b,rfl,hb⟩:=reg_nat h2;obtain ⟨c,rfl,hc⟩:=reg_nat h3;exact told hh hx h20 (by omega) (exec_and hh) (step_and (A:=0) (B:=0) (C:=0) X hN t ht hh hx (by omega) (by omega) (by omega))
   ·obtain ⟨h1,h2,h3⟩:=hi;obtain ⟨a,rfl,ha⟩:=reg_nat h1;obtain ⟨b,rfl,hb⟩:=reg_nat h2;obtain ⟨c,rfl,hc⟩:=reg_nat h3;exact told hh hx h20 (by omega) (exec_xor hh) (step_xor (A:=0) (B:=0) (C:=0) X hN t ht hh hx (by omega) (by omega) (by omega))
   ·obtain ⟨h1,h2,h3⟩:=hi;obtain ⟨a,rfl,ha⟩:=reg_nat h1;obtain ⟨b,rfl,hb⟩:=reg_nat h2
    cases hn:m.names (h.regs.getD b 0)with
    |none=>exact told hh hx h20 (by omega) (exec_load_none hh hn) (step_load_none (c:=0) (A:=0) (B:=0) X hN t ht hh hx (by omega) (by omega) hn)
    |some r=>exact told hh hx h20 (by omega) (exec_load_ok hh (rc:=r.1) (rg:=r.2) hn) (step_load_ok (c:=0) (A:=0) (B:=0) X hN t ht hh hx (by omega) (by omega) h3 hn)
   ·obtain ⟨h1,h2,h3⟩:=hi;obtain ⟨a,rfl,ha⟩:=reg_nat h1;obtain ⟨b,rfl,hb⟩:=reg_nat h2
    cases hn:m.names (h.regs.getD a 0)with
    |none=>exact told hh hx h20 (by omega) (exec_store_none hh hn) (step_store_none (c:=0) (A:=0) (B:=0) X hN t ht hh hx (by omega) (by omega) hn)
    |some r=>
     obtain ⟨l,hl⟩:∃l,m.waits[t]?=some l:=⟨_,List.getElem?_eq_getElem (by rw[X.ot.len];exact ht)⟩;have h8:=X.om.wlen t l hl
     by_cases h9:l.length<8
     ·exact told hh hx h20 (by omega) (exec_store_ok hh (rc:=r.1) (rg:=r.2) hn hl h9) (step_store_ok (c:=0) (A:=0) (B:=0) X hN t ht hh hx (by omega) (by omega) h3 hn hl h9)
     ·obtain ⟨y,q,rfl⟩:∃y q,l=y :: q:=by
       cases l with
       |nil=>simp at h9
       |cons y q=>exact ⟨y,q,rfl⟩
      have h7:q.length=7:=by simp at h8 h9;omega
      cases hin:hereIn m.cells y.c y.g with
      |true=>exact told hh hx h20 (by omega) (exec_store_full hh (rc:=r.1) (rg:=r.2) hn hl h7 hin) (step_store_full_ok (c:=0) (A:=0) (B:=0) X hN t ht hh hx (by omega) (by omega) h3 hn hl h7 hin)
      |false=>exact told hh hx h20 (by omega) (exec_store_full_bad hh (rc:=r.1) (rg:=r.2) hn hl h7 hin) (step_store_full_bad (c:=0) (A:=0) (B:=0) X hN t ht hh hx (by omega) (by omega) h3 hn hl h7 hin)
   ·obtain ⟨h1,h2,h3⟩:=hi;obtain ⟨a,rfl,ha⟩:=reg_nat h1;obtain ⟨b,rfl,hb⟩:=reg_nat h2;obtain ⟨c,rfl,hc⟩:=reg_nat h3
    cases hn:m.names (h.regs.getD b 0)with
    |none=>exact told hh hx h20 (by omega) (exec_swap_none hh hn) (step_swap_none (c:=0) (A:=0) (B:=0) X hN t ht hh hx (by omega) (by omega) hn)
    |some r=>
     obtain ⟨rc,rg⟩:=r;obtain ⟨k,rfl,hk⟩:=names_nat hn;exact told hh hx h20 (by omega) (exec_swap_ok hh hn) (step_swap_ok (A:=0) (B:=0) (C:=0) X hN t ht hh hx (by omega) (by omega) (by omega) hk hn)
   ·obtain ⟨h1,h2,h3⟩:=hi;obtain ⟨a,rfl,ha⟩:=reg_nat h1;obtain ⟨b,rfl,hb⟩:=reg_nat h2;obtain ⟨c,rfl,hc⟩:=reg_nat h3
    cases hn:m.names (h.regs.getD a 0)with
    |none=>exact told hh hx h20 (by omega) (exec_cas_none hh hn) (step_cas_none (c:=0) (A:=0) (B:=0) X hN t ht hh hx (by omega) (by omega) hn)
    |some r=>
     obtain ⟨rc,rg⟩:=r;obtain ⟨k,rfl,hk⟩:=names_nat hn;exact told hh hx h20 (by omega) (exec_cas_ok hh hn) (step_cas_ok (A:=0) (B:=0) (C:=0) X hN t ht hh hx (by omega) (by omega) (by omega) (by omega) hk hn)
   ·obtain ⟨a,rfl,ha⟩:=reg_nat hi
    cases hal:allocAt m.cells 0 with
    |none=>exact told hh hx h20 (by omega) (exec_alloc_none hal) (step_alloc_none (b:=0) (c:=0) (A:=0) X hN t ht hh hx (by omega) hal)
    |some r=>exact told hh hx h20 (by omega) (exec_alloc_ok (i:=r.1) (n:=r.2) hal) (step_alloc_ok (b:=0) (c:=0) (A:=0) X hN t ht hh hx (by omega) hal)
   ·obtain ⟨a,rfl,ha⟩:=reg_nat hi
    cases hn:m.names (h.regs.getD a 0)with
    |none=>exact told hh hx h20 (by omega) (exec_free_none hh hn) (step_free_none (b:=0) (c:=0) (A:=0) X hN t ht hh hx (by omega) hn)
    |some r=>
     obtain ⟨rc,rg⟩:=r;obtain ⟨k,rfl,hk⟩:=names_nat hn;exact told hh hx h20 (by omega) (exec_free_ok hh hn) (step_free_ok (b:=0) (c:=0) (A:=0) X hN t ht hh hx (by omega) hk hn)
   ·exact told hh hx h20 (by omega) exec_fence (step_fence (a:=0) (b:=0) (c:=0) X hN t ht hh hx)
   ·exact told hh hx h20 (by omega) exec_force (step_force (a:=0) (b:=0) (c:=0) X hN t ht hh hx)
   ·obtain ⟨a,rfl,ha⟩:=reg_nat hi;obtain ⟨i,hi⟩:=Option.isSome_iff_exists.1 (hlab (.inl rfl))
    by_cases hz:h.regs.getD a 0=0
    ·exact told hh hx h20 (by omega) (exec_zero_yes hh hi hz) (step_zero_yes (b:=0) (c:=0) (A:=0) X hN t ht hh hx (by omega) hi hz)
    ·exact told hh hx h20 (by omega) (exec_zero_no hh hz) (step_zero_no (b:=0) (c:=0) (A:=0) X hN t ht hh hx (by omega) hz)
   ·obtain ⟨h1,h2⟩:=hi;obtain ⟨a,rfl,ha⟩:=reg_nat h1;obtain ⟨b,rfl,hb⟩:=reg_nat h2;obtain ⟨i,hi⟩:=Option.isSome_iff_exists.1 (hlab (.inr (.inl rfl)))
    by_cases hz:h.regs.getD a 0=h.regs.getD b 0
    ·exact told hh hx h20 (by omega) (exec_same_yes hh hi hz) (step_same_yes (c:=0) (A:=0) (B:=0) X hN t ht hh hx (by omega) (by omega) hi hz)
    ·exact told hh hx h20 (by omega) (exec_same_no hh hz) (step_same_no (c:=0) (A:=0) (B:=0) X hN t ht hh hx (by omega) (by omega) hz)
   ·obtain ⟨i,hi⟩:=Option.isSome_iff_exists.1 (hlab (.inr (.inr rfl)));exact told hh hx h20 (by omega) (exec_goto hh hi) (step_goto (a:=0) (b:=0) (c:=0) X hN t ht hh hx hi)
   ·exact told hh hx h20 (by omega) exec_label (step_label (a:=0) (b:=0) (c:=0) X hN t ht hh hx)
   ·obtain ⟨a,rfl,ha⟩:=reg_nat hi
    by_cases h5:m.marks.length<500
    ·exact told hh hx h20 (by omega) (exec_mark_ok hh h5) (step_mark (b:=0) (c:=0) (A:=0) X hN t ht hh hx (by omega) h5)
    ·exact told hh hx h20 (by omega) (exec_mark_full h5) (step_mark_full (b:=0) (c:=0) (A:=0) X hN t ht hh hx (by omega) h5)
   ·obtain ⟨a,rfl,ha⟩:=reg_nat hi;exact told hh hx h20 (by omega) (exec_need hh) (step_need (b:=0) (c:=0) (A:=0) X hN t ht hh hx (by omega))
   ·have h21:¬op=20:=h20;have:op≤20:=insOk_le hi;omega
end
section
open Go.RowKit Qs Qh
theorem pnew_mem(n:Int)(iw rw_ cw:Value)(init regs:List (List Int))(codes:List (List RI))(cv:Nat→Value)(w:World){a:Nat→Addr}(E:ErrsAt w a)(hI:RowsAt0 w iw init)(hR:RowsAt0 w rw_ regs)(hC:RCodesAt w cw codes cv)
  (h:n<1∨64<n∨codes.length<1∨6<codes.length) :
  Calls Tryz.prog 10 #[.agg #[.int .i64 n,iw,rw_],cw] w fun e w'=>e=.returned (.tuple #[.pointer none,errV a 1])∧Mod noF w w':=by
 obtain ⟨wz,hwz⟩:∃wz,wz=w.alloc (.cells #[.int .i64 n,iw,rw_] 34):=⟨_,rfl⟩
 have hmz:Mod noF w wz:=by rw[hwz];exact (Mod.refl noF w).alloc _
 have hcall:Calls Tryz.prog 32 #[.int .i64 n,.int .i64 codes.length] wz fun e w'=>e=.returned (.tuple #[.pointer none,errV a 1])∧Mod noF wz w':=by
  by_cases h2:n<1∨64<n
  ·exact pmNew_cells n codes.length h2 wz (E.keep hmz).four
  ·obtain ⟨k,rfl⟩:=Int.eq_ofNat_of_zero_le (show 0≤n by omega);exact pmNew_threads k codes.length (by omega) (by omega) (by omega) wz (E.keep hmz).four
 unfold errV at hcall;have Hcall:=Lib.hid hcall;clear hcall h;obtain ⟨ia,ic,rfl,-⟩:=hI;obtain ⟨ra,rc,rfl,-⟩:=hR;obtain ⟨ca,cc,rfl,-⟩:=hC;have HE:=Lib.hid E;clear E
 have s0:wz.cell? ⟨w.heap.size,0,none⟩=some (.int .i64 n):=by rw[hwz];simp
 have s1:wz.cell? ⟨w.heap.size,1,none⟩=some (.slice ia init.length ic):=by rw[hwz];simp
 have s2:wz.cell? ⟨w.heap.size,2,none⟩=some (.slice ra regs.length rc):=by rw[hwz];simp
 have sb:w.heap.size<wz.heap.size:=by rw[hwz];simp
 have Hmz:=Lib.hid hmz;clear hmz
 go_enter Tryz.func10,Tryz.ntmps10
 go_wp2_with fail
 rw[←hwz];clear hwz;refine Hcall.out.mono ?_;rintro e w1 ⟨rfl,hm1⟩;have Hm1:=Lib.hid hm1;clear hm1 s0 s1 s2;go_wp2;go_ret2;exact ⟨rfl,Hmz.out.trans0 Hm1.out⟩
theorem pnew_len1(n:Nat)(iw rw_ cw:Value)(init regs:List (List Int))(codes:List (List RI))(cv:Nat→Value)(w:World){a:Nat→Addr}(E:ErrsAt w a)(hI:RowsAt0 w iw init)(hR:RowsAt0 w rw_ regs)(hC:RCodesAt w cw codes cv)
  (h1:1≤n) (hn:n≤64) (hc1:1≤codes.length) (hc6:codes.length≤6) (h:(n:Int)<init.length) :
  Calls Tryz.prog 10 #[.agg #[.int .i64 n,iw,rw_],cw] w fun e w'=>e=.returned (.tuple #[.pointer none,errV a 1])∧Mod noF w w':=by
 obtain ⟨wz,hwz⟩:∃wz,wz=w.alloc (.cells #[.int .i64 n,iw,rw_] 34):=⟨_,rfl⟩
 have hmz:Mod noF w wz:=by rw[hwz];exact (Mod.refl noF w).alloc _
 obtain ⟨ia,ic,rfl,-⟩:=hI;obtain ⟨ra,rc,rfl,-⟩:=hR;obtain ⟨ca,cc,rfl,-⟩:=hC;have HE:=Lib.hid E;clear E
 have s0:wz.cell? ⟨w.heap.size,0,none⟩=some (.int .i64 n):=by rw[hwz];simp
 have s1:wz.cell? ⟨w.heap.size,1,none⟩=some (.slice ia init.length ic):=by rw[hwz];simp
 have s2:wz.cell? ⟨w.heap.size,2,none⟩=some (.slice ra regs.length rc):=by rw[hwz];simp
 have sb:w.heap.size<wz.heap.size:=by rw[hwz];simp
 have Hmz:=Lib.hid hmz;clear hmz
 have d1:decide ((init.length:Int)≤(n:Int))=false:=by simp;omega
 go_enter Tryz.func10,Tryz.ntmps10
 go_wp2_with fail
 rw[←hwz];clear hwz;refine (pmNew_ok n codes.length h1 hn hc1 hc6 wz).mono ?_;rintro e w1 ⟨P,rfl,-,hm1,-⟩;have q0:=hm1.cell s0 (fun e=>e);have q1:=hm1.cell s1 (fun e=>e);have q2:=hm1.cell s2 (fun e=>e);have qb:=Nat.lt_of_lt_of_le sb hm1.size;have v1:=(HE.out.keep (Hmz.out.trans0 hm1)).v1
 have Hm1:=Lib.hid hm1;clear hm1 s0 s1 s2;go_wp2
 go_quiet (fail)
 go_wp2;go_ret2;exact ⟨rfl,by first|exact (Hmz.out.trans0 Hm1.out).drewN _|exact (Hmz.out.trans0 Hm1.out).drew|exact Hmz.out.trans0 Hm1.out⟩
theorem pnew_len2(n:Nat)(iw rw_ cw:Value)(init regs:List (List Int))(codes:List (List RI))(cv:Nat→Value)(w:World){a:Nat→Addr}(E:ErrsAt w a)(hI:RowsAt0 w iw init)(hR:RowsAt0 w rw_ regs)(hC:RCodesAt w cw codes cv)
  (h1:1≤n) (hn:n≤64) (hc1:1≤codes.length) (hc6:codes.length≤6) (hin:init.length≤n) (h:codes.length<regs.length) :
  Calls Tryz.prog 10 #[.agg #[.int .i64 n,iw,rw_],cw] w fun e w'=>e=.returned (.tuple #[.pointer none,errV a 1])∧Mod noF w w':=by
 obtain ⟨wz,hwz⟩:∃wz,wz=w.alloc (.cells #[.int .i64 n,iw,rw_] 34):=⟨_,rfl⟩
 have hmz:Mod noF w wz:=by rw[hwz];exact (Mod.refl noF w).alloc _
 obtain ⟨ia,ic,rfl,-⟩:=hI;obtain ⟨ra,rc,rfl,-⟩:=hR;obtain ⟨ca,cc,rfl,-⟩:=hC;have HE:=Lib.hid E;clear E
 have s0:wz.cell? ⟨w.heap.size,0,none⟩=some (.int .i64 n):=by rw[hwz];simp
 have s1:wz.cell? ⟨w.heap.size,1,none⟩=some (.slice ia init.length ic):=by rw[hwz];simp
 have s2:wz.cell? ⟨w.heap.size,2,none⟩=some (.slice ra regs.length rc):=by rw[hwz];simp
 have sb:w.heap.size<wz.heap.size:=by rw[hwz];simp
 have Hmz:=Lib.hid hmz;clear hmz
 have d1:decide ((init.length:Int)≤(n:Int))=true:=by simp;omega
 have d2:decide ((regs.length:Int)≤(codes.length:Int))=false:=by simp;omega
 go_enter Tryz.func10,Tryz.ntmps10
 go_wp2_with fail
 rw[←hwz];clear hwz;refine (pmNew_ok n codes.length h1 hn hc1 hc6 wz).mono ?_;rintro e w1 ⟨P,rfl,-,hm1,-⟩;have q0:=hm1.cell s0 (fun e=>e);have q1:=hm1.cell s1 (fun e=>e);have q2:=hm1.cell s2 (fun e=>e);have qb:=Nat.lt_of_lt_of_le sb hm1.size;have v1:=(HE.out.keep (Hmz.out.trans0 hm1)).v1
 have Hm1:=Lib.hid hm1;clear hm1 s0 s1 s2;go_wp2
 go_quiet (fail)
 go_wp2;go_ret2;exact ⟨rfl,by first|exact (Hmz.out.trans0 Hm1.out).drewN _|exact (Hmz.out.trans0 Hm1.out).drew|exact Hmz.out.trans0 Hm1.out⟩
theorem pnew_row1(n:Nat)(iw rw_ cw:Value)(init regs:List (List Int))(codes:List (List RI))(cv:Nat→Value)(w:World){a:Nat→Addr}(E:ErrsAt w a)(hI:RowsAt0 w iw init)(hR:RowsAt0 w rw_ regs)(hC:RCodesAt w cw codes cv)
  (h1:1≤n) (hn:n≤64) (hc1:1≤codes.length) (hc6:codes.length≤6) (hin:init.length≤n) (hrc:regs.length≤codes.length) (hi:init.all (rightB 4)=false) :
  Calls Tryz.prog 10 #[.agg #[.int .i64 n,iw,rw_],cw] w fun e w'=>e=.returned (.tuple #[.pointer none,errV a 1])∧Mod noF w w':=by
 obtain ⟨wz,hwz⟩:∃wz,wz=w.alloc (.cells #[.int .i64 n,iw,rw_] 34):=⟨_,rfl⟩
 have hmz:Mod noF w wz:=by rw[hwz];exact (Mod.refl noF w).alloc _
 have hci1:∀W,Mod noF wz W→Calls Tryz.prog 33 #[iw,.func (.func 34) #[] #[]] W fun e w'=>e=.returned (.bool true)∧W=w':=fun W hW=>
  (containsR1 W iw init (rows_keep0 hI (hmz.trans0 hW)) (by omega)).mono fun e w' h=>⟨by rw[h.1,hi];rfl,h.2⟩
 have Hci1:=Lib.hid hci1;clear hci1;obtain ⟨ia,ic,rfl,-⟩:=hI;obtain ⟨ra,rc,rfl,-⟩:=hR;obtain ⟨ca,cc,rfl,-⟩:=hC;have HE:=Lib.hid E;clear E
 have s0:wz.cell? ⟨w.heap.size,0,none⟩=some (.int .i64 n):=by rw[hwz];simp
 have s1:wz.cell? ⟨w.heap.size,1,none⟩=some (.slice ia init.length ic):=by rw[hwz];simp
 have s2:wz.cell? ⟨w.heap.size,2,none⟩=some (.slice ra regs.length rc):=by rw[hwz];simp
 have sb:w.heap.size<wz.heap.size:=by rw[hwz];simp
 have Hmz:=Lib.hid hmz;clear hmz
 have d1:decide ((init.length:Int)≤(n:Int))=true:=by simp;omega
 have d2:decide ((regs.length:Int)≤(codes.length:Int))=true:=by simp;omega
 go_enter Tryz.func10,Tryz.ntmps10
 go_wp2_with fail
 rw[←hwz];clear hwz;refine (pmNew_ok n codes.length h1 hn hc1 hc6 wz).mono ?_;rintro e w1 ⟨P,rfl,-,hm1,-⟩;have q0:=hm1.cell s0 (fun e=>e);have q1:=hm1.cell s1 (fun e=>e);have q2:=hm1.cell s2 (fun e=>e);have qb:=Nat.lt_of_lt_of_le sb hm1.size;have v1:=(HE.out.keep (Hmz.out.trans0 hm1)).v1
 have Hm1:=Lib.hid hm1;clear hm1 s0 s1 s2
 go_wp2_with fail
 refine (Hci1.out w1 Hm1.out).mono ?_;rintro e w' ⟨rfl,rfl⟩;go_wp2
 go_quiet (fail)
 go_wp2;go_ret2;exact ⟨rfl,by first|exact (Hmz.out.trans0 Hm1.out).drewN _|exact (Hmz.out.trans0 Hm1.out).drew|exact Hmz.out.trans0 Hm1.out⟩
theorem pnew_row2(n:Nat)(iw rw_ cw:Value)(init regs:List (List Int))(codes:List (List RI))(cv:Nat→Value)(w:World){a:Nat→Addr}(E:ErrsAt w a)(hI:RowsAt0 w iw init)(hR:RowsAt0 w rw_ regs)(hC:RCodesAt w cw codes cv)
  (h1:1≤n) (hn:n≤64) (hc1:1≤codes.length) (hc6:codes.length≤6) (hin:init.length≤n) (hrc:regs.length≤codes.length) (hi:init.all (rightB 4)=true) (hr:regs.all (rightB 8)=false) :
  Calls Tryz.prog 10 #[.agg #[.int .i64 n,iw,rw_],cw] w fun e w'=>e=.returned (.tuple #[.pointer none,errV a 1])∧Mod noF w w':=by
 obtain ⟨wz,hwz⟩:∃wz,wz=w.alloc (.cells #[.int .i64 n,iw,rw_] 34):=⟨_,rfl⟩
 have hmz:Mod noF w wz:=by rw[hwz];exact (Mod.refl noF w).alloc _
 have hci1:∀W,Mod noF wz W→Calls Tryz.prog 33 #[iw,.func (.func 34) #[] #[]] W fun e w'=>e=.returned (.bool false)∧W=w':=fun W hW=>
  (containsR1 W iw init (rows_keep0 hI (hmz.trans0 hW)) (by omega)).mono fun e w' h=>⟨by rw[h.1,hi];rfl,h.2⟩
 have Hci1:=Lib.hid hci1;clear hci1
 have hci2:∀W,Mod noF wz W→Calls Tryz.prog 33 #[rw_,.func (.func 36) #[] #[]] W fun e w'=>e=.returned (.bool true)∧W=w':=fun W hW=>
  (containsR2 W rw_ regs (rows_keep0 hR (hmz.trans0 hW)) (by omega)).mono fun e w' h=>⟨by rw[h.1,hr];rfl,h.2⟩
 have Hci2:=Lib.hid hci2;clear hci2;obtain ⟨ia,ic,rfl,-⟩:=hI;obtain ⟨ra,rc,rfl,-⟩:=hR;obtain ⟨ca,cc,rfl,-⟩:=hC;have HE:=Lib.hid E;clear E
 have s0:wz.cell? ⟨w.heap.size,0,none⟩=some (.int .i64 n):=by rw[hwz];simp
 have s1:wz.cell? ⟨w.heap.size,1,none⟩=some (.slice ia init.length ic):=by rw[hwz];simp
 have s2:wz.cell? ⟨w.heap.size,2,none⟩=some (.slice ra regs.length rc):=by rw[hwz];simp
 have sb:w.heap.size<wz.heap.size:=by rw[hwz];simp
 have Hmz:=Lib.hid hmz;clear hmz
 have d1:decide ((init.length:Int)≤(n:Int))=true:=by simp;omega
 have d2:decide ((regs.length:Int)≤(codes.length:Int))=true:=by simp;omega
 go_enter Tryz.func10,Tryz.ntmps10
 go_wp2_with fail
 rw[←hwz];clear hwz;refine (pmNew_ok n codes.length h1 hn hc1 hc6 wz).mono ?_;rintro e w1 ⟨P,rfl,-,hm1,-⟩;have q0:=hm1.cell s0 (fun e=>e);have q1:=hm1.cell s1 (fun e=>e);have q2:=hm1.cell s2 (fun e=>e);have qb:=Nat.lt_of_lt_of_le sb hm1.size;have v1:=(HE.out.keep (Hmz.out.trans0 hm1)).v1
 have Hm1:=Lib.hid hm1;clear hm1 s0 s1 s2
 go_wp2_with fail
 refine (Hci1.out w1 Hm1.out).mono ?_;rintro e w' ⟨rfl,rfl⟩
 go_wp2_with fail
 refine (Hci2.out w1 Hm1.out).mono ?_;rintro e w' ⟨rfl,rfl⟩;go_wp2
 go_quiet (fail)
 go_wp2;go_ret2;exact ⟨rfl,by first|exact (Hmz.out.trans0 Hm1.out).drewN _|exact (Hmz.out.trans0 Hm1.out).drew|exact Hmz.out.trans0 Hm1.out⟩
theorem rows_fine{k:Nat}{ll:List (List Int)}(h:ll.all (rightB k)=true):RowsFine k ll:=fun l hl=>by
 have:=List.all_eq_true.1 h l hl;unfold rightB at this;rw[Bool.and_eq_true,decide_eq_true_eq,List.all_eq_true]at this;exact this
def ShapeR(n:Int)(init regs:List (List Int))(codes:List (List RI)):Prop:=
 1≤n∧n≤64∧1≤codes.length∧codes.length≤6∧(init.length:Int)≤n∧regs.length≤codes.length∧init.all (rightB 4)=true∧regs.all (rightB 8)=true
theorem pnew_any(n:Int)(iw rw_ cw:Value)(init regs:List (List Int))(codes:List (List RI))(cv:Nat→Value)(w:World){a:Nat→Addr}(E:ErrsAt w a)(hI:RowsAt0 w iw init)(hR:RowsAt0 w rw_ regs)(hC:RCodesAt w cw codes cv)
  (lk:∀l∈codes,l.length≤maxLen) :
  Calls Tryz.prog 10 #[.agg #[.int .i64 n,iw,rw_],cw] w fun e w'=>
   (¬ShapeR n init regs codes∧e=.returned (.tuple #[.pointer none,errV a 1])∧Mod noF w w')∨(∃k:Nat,n=k∧ShapeR n init regs codes∧(NewBad w a codes e w'∨NewGood w k init regs codes e w')):=by
 by_cases h0:n<1∨64<n∨codes.length<1∨6<codes.length
 ·exact (pnew_mem n iw rw_ cw init regs codes cv w E hI hR hC h0).mono fun e w' h=>.inl ⟨fun s=>by have:=s.1;have:=s.2.1;have:=s.2.2.1;have:=s.2.2.2.1;omega,h⟩
 ·obtain ⟨k,rfl⟩:=Int.eq_ofNat_of_zero_le (show 0≤n by omega)
  by_cases h1:(k:Int)<init.length
  ·exact (pnew_len1 k iw rw_ cw init regs codes cv w E hI hR hC (by omega) (by omega) (by omega) (by omega) h1).mono fun e w' h=>.inl ⟨fun s=>by have:=s.2.2.2.2.1;omega,h⟩
  ·by_cases h2:codes.length<regs.length
   ·exact (pnew_len2 k iw rw_ cw init regs codes cv w E hI hR hC (by omega) (by omega) (by omega) (by omega) (by omega) h2).mono fun e w' h=>.inl ⟨fun s=>by have:=s.2.2.2.2.2.1;omega,h⟩
   ·cases h3:init.all (rightB 4)with
    |false=>exact (pnew_row1 k iw rw_ cw init regs codes cv w E hI hR hC (by omega) (by omega) (by omega) (by omega) (by omega) (by omega) h3).mono fun e w' h=>.inl ⟨fun s=>(by have:=s.2.2.2.2.2.2.1;rw[h3]at this;cases this),h⟩
    |true=>
     cases h4:regs.all (rightB 8)with
     |false=>exact (pnew_row2 k iw rw_ cw init regs codes cv w E hI hR hC (by omega) (by omega) (by omega) (by omega) (by omega) (by omega) h3 h4).mono fun e w' h=>.inl ⟨fun s=>(by have:=s.2.2.2.2.2.2.2;rw[h4]at this;cases this),h⟩
     |true=>exact (pnew_main k iw rw_ cw init regs codes cv w E hI hR hC lk (by omega) (by omega) (by omega) (by omega) (by omega) (by omega) h3 h4 (rows_fine h3) (rows_fine h4)).mono fun e w' h=>.inr ⟨k,rfl,⟨by omega,by omega,by omega,by omega,by omega,by omega,h3,h4⟩,h⟩
end
section
open Go.RowKit Qs Qh
variable {w w':World}
theorem rightWords_any(v:Value)(l:List Int)(most:Nat)(w:World)(h:IntsAt w v l)(hm2:most≤1000) :
  Calls Tryz.prog 63 #[v,.int .i64 most] w fun e w'=>e=.returned (.bool (rightB most l))∧w=w':=by
 obtain ⟨a,c,rfl,hc,hx⟩:=h.at_;unfold maxLen at hc;have Hx:=Lib.hid hx;clear hx h
 go_enter Tryz.func63,Tryz.ntmps63
 go_wp2
 go_loop [5] (fun i=>∃k:Nat,k≤l.length∧i=.int .i64 k∧∀(j:Nat) x,j<k→l[j]?=some x→isWord x=true) (fun i=>l.length - (intOf i).toNat)
 case atStart=>exact ⟨0,Nat.zero_le _,rfl,fun j x h=>absurd h (by omega)⟩
 case round=>
  obtain ⟨k,hk,rfl,hz⟩:=hrel;have Hz:=Lib.hid hz;clear hz
  by_cases hlt:k<l.length
  ·have hd:decide ((k:Int)<(l.length:Int))=true:=by simp;omega
   have hki:(k:Int)<(l.length:Int):=by omega
   obtain ⟨x,hxk⟩:∃x,l[k]?=some x:=⟨_,List.getElem?_eq_getElem hlt⟩;obtain ⟨b,off,rfl,hb,hcell⟩:=Hx.out k x hxk;have Hxk:=Lib.hid hxk;clear hxk
   cases hwx:isWord x with
   |true=>
    have Hwx:=Lib.hid hwx;clear hwx
    go_wp2_with (go_at_call 99;refine (isWord_any _ _).mono ?_;rintro e w' ⟨rfl,rfl⟩;rw[Hwx.out])
    go_round
    case rel=>exact ⟨k+1,by omega,by go_num,fun j y hj hy=>by
     by_cases e:j=k
     ·rw[e,Hxk.out]at hy;cases hy;exact Hwx.out
     ·exact Hz.out j y (by omega) hy⟩
    case measure=>simp[intOf];omega
   |false=>
    have hall:l.all isWord=false:=by
     rw[List.all_eq_false];exact ⟨x,List.mem_of_getElem? Hxk.out,by simp[hwx]⟩
    have Hall:=Lib.hid hall;have Hwx:=Lib.hid hwx;clear hwx hall
    go_wp2_with (go_at_call 99;refine (isWord_any _ _).mono ?_;rintro e w' ⟨rfl,rfl⟩;rw[Hwx.out])
    go_ret;exact ⟨by unfold rightB;rw[Hall.out,Bool.and_false];rfl,rfl⟩
  ·have hd:decide ((k:Int)<(l.length:Int))=false:=by simp;omega
   have hall:l.all isWord=true:=by
    rw[List.all_eq_true];intro x hx;obtain ⟨i,hi⟩:=List.mem_iff_getElem?.1 hx;exact Hz.out i x (by have:=(List.getElem?_eq_some_iff.1 hi).1;omega) hi
   have Hall:=Lib.hid hall;clear hall Hz
   by_cases hm:l.length≤most
   ·have hd2:decide ((l.length:Int)≤(most:Int))=true:=by simp;omega
    have hd3:decide (l.length≤most)=true:=by simpa using hm
    have Hd3:=Lib.hid hd3;clear hd3;go_wp2;go_ret;exact ⟨by unfold rightB;rw[Hall.out,Hd3.out];rfl,rfl⟩
   ·have hd2:decide ((l.length:Int)≤(most:Int))=false:=by simp;omega
    have hd3:decide (l.length≤most)=false:=by simpa using hm
    have Hd3:=Lib.hid hd3;clear hd3;go_wp2;go_ret;exact ⟨by unfold rightB;rw[Hall.out,Hd3.out];rfl,rfl⟩
def codesF:List (List RI)→Nat→Int × Int
 |[],_=>(0,-1)
 |c :: r,i=>if (chkR c).1≠0 then ((chkR c).1,(i:Int))else codesF r (i+1)
theorem codesF_at{codes:List (List RI)}:∀ {r:List (List RI)} {s k:Nat} {c:List RI},r[k]?=some c→(∀(j:Nat) d,j<k→r[j]?=some d→(chkR d).1=0)→(chkR c).1≠0→codesF r s=((chkR c).1,((s+k:Nat):Int))
 |[],s,k,c,h,_,_=>by simp at h
 |y :: r,s,0,c,h,_,hc=>by cases h;unfold codesF;rw[if_pos hc];simp
 |y :: r,s,k+1,c,h,hz,hc=>by
  unfold codesF;rw[if_neg (by rw[hz 0 y (by omega) rfl];simp),codesF_at (codes:=codes) (s:=s+1) (k:=k) (by simpa using h) (fun j d hj hd=>hz (j+1) d (by omega) (by simpa using hd)) hc,show s+1+k=s+(k+1) by omega]
theorem codesF_none:∀ {r:List (List RI)} {s:Nat},(∀(j:Nat) d,r[j]?=some d→(chkR d).1=0)→codesF r s=(0,-1)
 |[],s,_=>rfl
 |y :: r,s,h=>by
  unfold codesF;rw[if_neg (by rw[h 0 y rfl];simp)];exact codesF_none fun j d hd=>h (j+1) d (by simpa using hd)
theorem chkR_ge(l:List RI):0≤(chkR l).1:=by
 unfold chkR
 split
 ·decide
 ·have hF:∀(r:List RI) (s:Nat),0≤(chkF l r s).1:=by
   intro r
   induction r with
   |nil=>intro s;exact Int.le_refl _
   |cons x r ih=>
    intro s;unfold chkF
    split
    ·show 0≤chkI l s x;unfold chkI;have:=one_neg (x:=x)
     split
     ·exact this.1
     ·split
      ·decide
      ·split <;> decide
    ·exact ih (s+1)
  exact hF l 0
def SfRes(n:Int)(init regs:List (List Int))(codes:List (List RI))(e:Ending):Prop:=
 (¬ShapeR n init regs codes∧e=.returned (.agg #[.int .i64 2,.int .i64 (-1)]))∨(ShapeR n init regs codes∧e=.returned (.agg #[.int .i64 (codesF codes 0).1,.int .i64 (codesF codes 0).2]))
theorem startFault_any(n:Int)(iw rw_ cw:Value)(init regs:List (List Int))(codes:List (List RI))(cv:Nat→Value)(w:World)(hI:RowsAt0 w iw init)(hR:RowsAt0 w rw_ regs)(hC:RCodesAt w cw codes cv)
  (li:init.length≤maxLen) (lr:regs.length≤maxLen) (lc:codes.length≤maxLen) (lk:∀l∈codes,l.length≤maxLen) :
  Calls Tryz.prog 21 #[.agg #[.int .i64 n,iw,rw_],cw] w fun e w'=>SfRes n init regs codes e∧Mod noF w w':=by
 have HI:=Lib.hid hI;have HR:=Lib.hid hR;have HC:=Lib.hid hC;have Lk:=Lib.hid lk;obtain ⟨ia,ic,rfl,-⟩:=hI;obtain ⟨ra,rc,rfl,-⟩:=hR;obtain ⟨ca,cc,rfl,-⟩:=hC;unfold maxLen at li lr lc;clear lk
 go_enter Tryz.func21,Tryz.ntmps21
 obtain ⟨w0,hw0⟩:∃w0,w0=(w.alloc (.cells #[.int .i64 n,.slice ia init.length ic,.slice ra regs.length rc] 24)).alloc (.cells #[.int .i64 0,.int .i64 0] 56):=⟨_,rfl⟩
 have Hw0:=Lib.hid (show Mod noF w w0 from by rw[hw0];exact ((Mod.refl noF w).alloc _).alloc _)
 have hsz:w0.heap.size=w.heap.size+2:=by rw[hw0];simp
 have s0:w0.cell? ⟨w.heap.size,0,none⟩=some (.int .i64 n):=by rw[hw0];simp
 have s1:w0.cell? ⟨w.heap.size,1,none⟩=some (.slice ia init.length ic):=by rw[hw0];simp
 have s2:w0.cell? ⟨w.heap.size,2,none⟩=some (.slice ra regs.length rc):=by rw[hw0];simp
 have hr0:w0.heap[w.heap.size+1]?=some (.cells #[.int .i64 0,.int .i64 0] 56 (0,0)):=by rw[hw0];exact start_res _ _ _
 have Hres0:=Lib.hid hr0
 have sb:w.heap.size<w0.heap.size:=by omega
 have sb1:w.heap.size+1<w0.heap.size:=by omega
 have Hw:=Hw0;have Hres:=Hres0;have HW0:=Lib.hid hw0;clear hr0 hsz hw0
 by_cases g0:n<1
 ·have e0:decide (n<1)=true:=by simp;omega
  have hbad:¬ShapeR n init regs codes:=fun s=>by have:=s.1;omega
  have Hbad:=Lib.hid hbad;clear hbad
  go_wp2_with fail
  rw[←HW0.out];refine (bareR_any _ _).mono ?_;rintro e w7 ⟨rfl,hm7⟩;have hres:=hm7.heap Hres.out (fun e=>e);have r0:w7.cell? ⟨w.heap.size+1,0,none⟩=some (.int .i64 0):=(cell_of_heap hres 0).trans rfl;have r1:w7.cell? ⟨w.heap.size+1,1,none⟩=some (.int .i64 0):=(cell_of_heap hres 1).trans rfl
  have rf0:=free_of_heap hres 0;have rf1:=free_of_heap hres 1;have rb:=lt_of_block hres;have Hw7:=Lib.hid (Hw.out.trans0 hm7);clear hm7 hres;go_wp2
  exact bodyPost_ret (v:=.agg #[.int .i64 2,.int .i64 (-1)]) (by simp[results,Tryz.results21,go_sem,r0,r1]) rfl ⟨.inl ⟨Hbad.out,rfl⟩,two_set Hw7.out (by omega) _ _⟩
 ·have e0:decide (n<1)=false:=by simp;omega
  by_cases g1:64<n
  ·have e1:decide (64<n)=true:=by simp;omega
   have hbad:¬ShapeR n init regs codes:=fun s=>by have:=s.2.1;omega
   have Hbad:=Lib.hid hbad;clear hbad
   go_wp2_with fail
   rw[←HW0.out];refine (bareR_any _ _).mono ?_;rintro e w7 ⟨rfl,hm7⟩;have hres:=hm7.heap Hres.out (fun e=>e);have r0:w7.cell? ⟨w.heap.size+1,0,none⟩=some (.int .i64 0):=(cell_of_heap hres 0).trans rfl;have r1:w7.cell? ⟨w.heap.size+1,1,none⟩=some (.int .i64 0):=(cell_of_heap hres 1).trans rfl
   have rf0:=free_of_heap hres 0;have rf1:=free_of_heap hres 1;have rb:=lt_of_block hres;have Hw7:=Lib.hid (Hw.out.trans0 hm7);clear hm7 hres;go_wp2
   exact bodyPost_ret (v:=.agg #[.int .i64 2,.int .i64 (-1)]) (by simp[results,Tryz.results21,go_sem,r0,r1]) rfl ⟨.inl ⟨Hbad.out,rfl⟩,two_set Hw7.out (by omega) _ _⟩
  ·have e1:decide (64<n)=false:=by simp;omega
   by_cases g2:codes.length<1
   ·have e2:decide ((codes.length:Int)<1)=true:=by simp;omega
    have hbad:¬ShapeR n init regs codes:=fun s=>by have:=s.2.2.1;omega
    have Hbad:=Lib.hid hbad;clear hbad
    go_wp2_with fail
    rw[←HW0.out];refine (bareR_any _ _).mono ?_;rintro e w7 ⟨rfl,hm7⟩;have hres:=hm7.heap Hres.out (fun e=>e);have r0:w7.cell? ⟨w.heap.size+1,0,none⟩=some (.int .i64 0):=(cell_of_heap hres 0).trans rfl;have r1:w7.cell? ⟨w.heap.size+1,1,none⟩=some (.int .i64 0):=(cell_of_heap hres 1).trans rfl
    have rf0:=free_of_heap hres 0;have rf1:=free_of_heap hres 1;have rb:=lt_of_block hres;have Hw7:=Lib.hid (Hw.out.trans0 hm7);clear hm7 hres;go_wp2
    exact bodyPost_ret (v:=.agg #[.int .i64 2,.int .i64 (-1)]) (by simp[results,Tryz.results21,go_sem,r0,r1]) rfl ⟨.inl ⟨Hbad.out,rfl⟩,two_set Hw7.out (by omega) _ _⟩
   ·have e2:decide ((codes.length:Int)<1)=false:=by simp;omega
    by_cases g3:6<codes.length
    ·have e3:decide (6<(codes.length:Int))=true:=by simp;omega
     have hbad:¬ShapeR n init regs codes:=fun s=>by have:=s.2.2.2.1;omega
     have Hbad:=Lib.hid hbad;clear hbad
     go_wp2_with fail
     rw[←HW0.out];refine (bareR_any _ _).mono ?_;rintro e w7 ⟨rfl,hm7⟩;have hres:=hm7.heap Hres.out (fun e=>e);have r0:w7.cell? ⟨w.heap.size+1,0,none⟩=some (.int .i64 0):=(cell_of_heap hres 0).trans rfl;have r1:w7.cell? ⟨w.heap.size+1,1,none⟩=some (.int .i64 0):=(cell_of_heap hres 1).trans rfl
     have rf0:=free_of_heap hres 0;have rf1:=free_of_heap hres 1;have rb:=lt_of_block hres;have Hw7:=Lib.hid (Hw.out.trans0 hm7);clear hm7 hres;go_wp2
     exact bodyPost_ret (v:=.agg #[.int .i64 2,.int .i64 (-1)]) (by simp[results,Tryz.results21,go_sem,r0,r1]) rfl ⟨.inl ⟨Hbad.out,rfl⟩,two_set Hw7.out (by omega) _ _⟩
    ·have e3:decide (6<(codes.length:Int))=false:=by simp;omega
     by_cases g4:n<init.length
     ·have e4:decide (n<(init.length:Int))=true:=by simp;omega
      have hbad:¬ShapeR n init regs codes:=fun s=>by have:=s.2.2.2.2.1;omega
      have Hbad:=Lib.hid hbad;clear hbad
      go_wp2_with fail
      rw[←HW0.out];refine (bareR_any _ _).mono ?_;rintro e w7 ⟨rfl,hm7⟩;have hres:=hm7.heap Hres.out (fun e=>e);have r0:w7.cell? ⟨w.heap.size+1,0,none⟩=some (.int .i64 0):=(cell_of_heap hres 0).trans rfl;have r1:w7.cell? ⟨w.heap.size+1,1,none⟩=some (.int .i64 0):=(cell_of_heap hres 1).trans rfl
      have rf0:=free_of_heap hres 0;have rf1:=free_of_heap hres 1;have rb:=lt_of_block hres;have Hw7:=Lib.hid (Hw.out.trans0 hm7);clear hm7 hres;go_wp2
      exact bodyPost_ret (v:=.agg #[.int .i64 2,.int .i64 (-1)]) (by simp[results,Tryz.results21,go_sem,r0,r1]) rfl ⟨.inl ⟨Hbad.out,rfl⟩,two_set Hw7.out (by omega) _ _⟩
     ·have e4:decide (n<(init.length:Int))=false:=by simp;omega
      by_cases g5:codes.length<regs.length
      ·have e5:decide ((codes.length:Int)<(regs.length:Int))=true:=by simp;omega
       have hbad:¬ShapeR n init regs codes:=fun s=>by have:=s.2.2.2.2.2.1;omega
       have Hbad:=Lib.hid hbad;clear hbad
       go_wp2_with fail
       rw[←HW0.out];refine (bareR_any _ _).mono ?_;rintro e w7 ⟨rfl,hm7⟩;have hres:=hm7.heap Hres.out (fun e=>e);have r0:w7.cell? ⟨w.heap.size+1,0,none⟩=some (.int .i64 0):=(cell_of_heap hres 0).trans rfl;have r1:w7.cell? ⟨w.heap.size+1,1,none⟩=some (.int .i64 0):=(cell_of_heap hres 1).trans rfl
       have rf0:=free_of_heap hres 0;have rf1:=free_of_heap hres 1;have rb:=lt_of_block hres;have Hw7:=Lib.hid (Hw.out.trans0 hm7);clear hm7 hres;go_wp2
       exact bodyPost_ret (v:=.agg #[.int .i64 2,.int .i64 (-1)]) (by simp[results,Tryz.results21,go_sem,r0,r1]) rfl ⟨.inl ⟨Hbad.out,rfl⟩,two_set Hw7.out (by omega) _ _⟩
      ·have e5:decide ((codes.length:Int)<(regs.length:Int))=false:=by simp;omega
       go_wp2;rw[←HW0.out]
       go_loopw [5] (fun i wr=>∃k:Nat,k≤init.length∧i=.int .i64 k∧Mod noF w0 wr∧∀(j:Nat) l,j<k→init[j]?=some l→rightB 4 l=true) (fun i _=>init.length - (intOf i).toNat)
       case atStart=>exact ⟨0,Nat.zero_le _,rfl,Mod.refl _ _,fun j l h=>absurd h (by omega)⟩
       case round=>
        obtain ⟨k,hk,rfl,hm,hz⟩:=hrel;obtain ⟨w5,rfl⟩:∃w5:World,w5=wr:=⟨_,rfl⟩;have q1:=hm.cell s1 (fun e=>e);have qb:=Nat.lt_of_lt_of_le sb hm.size;have q2keep5:=hm.cell s2 (fun e=>e);have Hz:=Lib.hid hz;have Hm5:=Lib.hid hm;have hmw:=Hw0.out.trans0 hm;have hr9:=hm.heap Hres0.out (fun e=>e)
        have Hw5:=Lib.hid hmw;have Hres5:=Lib.hid hr9;have hrb:=lt_of_block hr9;clear hz hm hmw hr9
        by_cases hlt:k<init.length
        ·have hd:decide ((k:Int)<(init.length:Int))=true:=by simp;omega
         have hki:(k:Int)<(init.length:Int):=by omega
         obtain ⟨l,hl⟩:∃l,init[k]?=some l:=⟨_,List.getElem?_eq_getElem hlt⟩;obtain ⟨_,_,e',hx⟩:=rows_keep0 HI.out Hw5.out;cases e';obtain ⟨b,off,u,rfl,hb,hc,hu,-⟩:=hx k l hl;have hrw:=rightWords_any u l 4 w5 hu (by decide);obtain ⟨ua,uc,rfl,-⟩:=hu.at_;have Hrw:=Lib.hid hrw;have Hl:=Lib.hid hl
         clear hx hu hl hrw
         cases hv:rightB 4 l with
         |true=>
          rw[hv]at Hrw;have Hv:=Lib.hid hv;clear hv
          go_wp2_with fail
          refine Hrw.out.mono ?_;rintro e w' ⟨rfl,rfl⟩;go_wp2
          go_roundw
          case rel=>exact ⟨k+1,by omega,by go_num,Hm5.out,fun j y hj hy=>by
           by_cases e:j=k
           ·rw[e,Hl.out]at hy;cases hy;exact Hv.out
           ·exact Hz.out j y (by omega) hy⟩
          case measure=>simp[intOf];omega
         |false=>
          rw[hv]at Hrw
          have hall:init.all (rightB 4)=false:=by
           rw[List.all_eq_false];exact ⟨l,List.mem_of_getElem? Hl.out,by simp[hv]⟩
          have hbad:¬ShapeR n init regs codes:=fun s=>by
           have:=s.2.2.2.2.2.2.1;rw[hall]at this;cases this
          have Hbad0:=Lib.hid hbad;clear hv hall hbad
          go_wp2_with fail
          refine Hrw.out.mono ?_;rintro e w' ⟨rfl,rfl⟩;have hbad:¬ShapeR n init regs codes:=Hbad0.out;have Hbad:=Lib.hid hbad;clear hbad
          go_wp2_with fail
          skip
          refine (bareR_any _ _).mono ?_;rintro e w7 ⟨rfl,hm7⟩;have hres:=hm7.heap Hres5.out (fun e=>e);have r0:w7.cell? ⟨w.heap.size+1,0,none⟩=some (.int .i64 0):=(cell_of_heap hres 0).trans rfl;have r1:w7.cell? ⟨w.heap.size+1,1,none⟩=some (.int .i64 0):=(cell_of_heap hres 1).trans rfl
          have rf0:=free_of_heap hres 0;have rf1:=free_of_heap hres 1;have rb:=lt_of_block hres;have Hw7:=Lib.hid (Hw5.out.trans0 hm7);clear hm7 hres;go_wp2
          exact bodyPost_ret (v:=.agg #[.int .i64 2,.int .i64 (-1)]) (by simp[results,Tryz.results21,go_sem,r0,r1]) rfl ⟨.inl ⟨Hbad.out,rfl⟩,two_set Hw7.out (by omega) _ _⟩
        ·have hd:decide ((k:Int)<(init.length:Int))=false:=by simp;omega
         have hall5:init.all (rightB 4)=true:=by
          rw[List.all_eq_true];intro l hl;obtain ⟨i,hi⟩:=List.mem_iff_getElem?.1 hl;exact Hz.out i l (by have:=(List.getElem?_eq_some_iff.1 hi).1;omega) hi
         have Hall5:=Lib.hid hall5;clear hall5 Hz;have s27:=q2keep5;go_wp2
         skip
         go_loopw [7] (fun i wr=>∃k:Nat,k≤regs.length∧i=.int .i64 k∧Mod noF w5 wr∧∀(j:Nat) l,j<k→regs[j]?=some l→rightB 8 l=true) (fun i _=>regs.length - (intOf i).toNat)
         case atStart=>exact ⟨0,Nat.zero_le _,rfl,Mod.refl _ _,fun j l h=>absurd h (by omega)⟩
         case round=>
          obtain ⟨k,hk,rfl,hm,hz⟩:=hrel;obtain ⟨w7,rfl⟩:∃w7:World,w7=wr:=⟨_,rfl⟩;have q1:=hm.cell s27 (fun e=>e);have qb:=Nat.lt_of_lt_of_le qb hm.size;have Hz:=Lib.hid hz;have Hm7:=Lib.hid hm;have hmw:=Hw5.out.trans0 hm;have hr9:=hm.heap Hres5.out (fun e=>e);have Hw7:=Lib.hid hmw
          have Hres7:=Lib.hid hr9;have hrb:=lt_of_block hr9;clear hz hm hmw hr9
          by_cases hlt:k<regs.length
          ·have hd:decide ((k:Int)<(regs.length:Int))=true:=by simp;omega
           have hki:(k:Int)<(regs.length:Int):=by omega
           obtain ⟨l,hl⟩:∃l,regs[k]?=some l:=⟨_,List.getElem?_eq_getElem hlt⟩;obtain ⟨_,_,e',hx⟩:=rows_keep0 HR.out Hw7.out;cases e';obtain ⟨b,off,u,rfl,hb,hc,hu,-⟩:=hx k l hl;have hrw:=rightWords_any u l 8 w7 hu (by decide);obtain ⟨ua,uc,rfl,-⟩:=hu.at_;have Hrw:=Lib.hid hrw;have Hl:=Lib.hid hl
           clear hx hu hl hrw
           cases hv:rightB 8 l with
           |true=>
            rw[hv]at Hrw;have Hv:=Lib.hid hv;clear hv
            go_wp2_with fail
            refine Hrw.out.mono ?_;rintro e w' ⟨rfl,rfl⟩;go_wp2
            go_roundw
            case rel=>exact ⟨k+1,by omega,by go_num,Hm7.out,fun j y hj hy=>by
             by_cases e:j=k
             ·rw[e,Hl.out]at hy;cases hy;exact Hv.out
             ·exact Hz.out j y (by omega) hy⟩
            case measure=>simp[intOf];omega
           |false=>
            rw[hv]at Hrw
            have hall:regs.all (rightB 8)=false:=by
             rw[List.all_eq_false];exact ⟨l,List.mem_of_getElem? Hl.out,by simp[hv]⟩
            have hbad:¬ShapeR n init regs codes:=fun s=>by
             have:=s.2.2.2.2.2.2.2;rw[hall]at this;cases this
            have Hbad0:=Lib.hid hbad;clear hv hall hbad
            go_wp2_with fail
            refine Hrw.out.mono ?_;rintro e w' ⟨rfl,rfl⟩;have hbad:¬ShapeR n init regs codes:=Hbad0.out;have Hbad:=Lib.hid hbad;clear hbad
            go_wp2_with fail
            skip
            refine (bareR_any _ _).mono ?_;rintro e w7 ⟨rfl,hm7⟩;have hres:=hm7.heap Hres7.out (fun e=>e);have r0:w7.cell? ⟨w.heap.size+1,0,none⟩=some (.int .i64 0):=(cell_of_heap hres 0).trans rfl;have r1:w7.cell? ⟨w.heap.size+1,1,none⟩=some (.int .i64 0):=(cell_of_heap hres 1).trans rfl
            have rf0:=free_of_heap hres 0;have rf1:=free_of_heap hres 1;have rb:=lt_of_block hres;have Hw7:=Lib.hid (Hw7.out.trans0 hm7);clear hm7 hres;go_wp2
            exact bodyPost_ret (v:=.agg #[.int .i64 2,.int .i64 (-1)]) (by simp[results,Tryz.results21,go_sem,r0,r1]) rfl ⟨.inl ⟨Hbad.out,rfl⟩,two_set Hw7.out (by omega) _ _⟩
          ·have hd:decide ((k:Int)<(regs.length:Int))=false:=by simp;omega
           have hall7:regs.all (rightB 8)=true:=by
            rw[List.all_eq_true];intro l hl;obtain ⟨i,hi⟩:=List.mem_iff_getElem?.1 hl;exact Hz.out i l (by have:=(List.getElem?_eq_some_iff.1 hi).1;omega) hi
           have Hall7:=Lib.hid hall7;clear hall7 Hz;have hgood:ShapeR n init regs codes:=⟨by omega,by omega,by omega,by omega,by omega,by omega,Hall5.out,Hall7.out⟩;have Hgood:=Lib.hid hgood;clear hgood;go_wp2
           go_loopw [9] (fun i wr=>∃k:Nat,k≤codes.length∧i=.int .i64 k∧Mod noF w7 wr∧∀(j:Nat) d,j<k→codes[j]?=some d→(chkR d).1=0) (fun i _=>codes.length - (intOf i).toNat)
           case atStart=>exact ⟨0,Nat.zero_le _,rfl,Mod.refl _ _,fun j d h=>absurd h (by omega)⟩
           case round=>
            obtain ⟨k,hk,rfl,hm,hz⟩:=hrel;obtain ⟨w9,rfl⟩:∃w9:World,w9=wr:=⟨_,rfl⟩;have Hz:=Lib.hid hz;have hmw:=Hw7.out.trans0 hm;have hr9:=hm.heap Hres7.out (fun e=>e);have Hw9:=Lib.hid hmw;have Hres9:=Lib.hid hr9;have Hm:=Lib.hid hm;have hrb9:=lt_of_block hr9;clear hz hm hmw hr9
            by_cases hlt:k<codes.length
            ·have hd:decide ((k:Int)<(codes.length:Int))=true:=by simp;omega
             have hki:(k:Int)<(codes.length:Int):=by omega
             obtain ⟨l,hl⟩:∃l,codes[k]?=some l:=⟨_,List.getElem?_eq_getElem hlt⟩;have hll:=Lk.out l (List.mem_of_getElem? hl);obtain ⟨_,_,e',hx⟩:=HC.out.keep Hw9.out;cases e';obtain ⟨b,off,rfl,hb,hc,hu,-⟩:=hx k l hl;have hcf:=codeFaultR_any hu hll;obtain ⟨⟨ua,uc,ec,-⟩,-⟩:=hu;rw[ec]at hc hcf
             have Hcf:=Lib.hid hcf;have Hl:=Lib.hid hl;have hge:=chkR_ge l;clear hx hl hcf ec
             go_wp2_with fail
             refine Hcf.out.mono ?_;rintro e w10 ⟨rfl,hm10⟩;have Hm10:=Lib.hid hm10;have hr10:=hm10.heap Hres9.out (fun e=>e);obtain ⟨wa,hwa⟩:∃wa,wa=w10.alloc (.cells #[.int .i64 (chkR l).1,.int .i64 (chkR l).2] 56):=⟨_,rfl⟩
             have hma:Mod noF w10 wa:=by rw[hwa];exact (Mod.refl _ _).alloc _
             have x0:wa.cell? ⟨w10.heap.size,0,none⟩=some (.int .i64 (chkR l).1):=by rw[hwa];simp
             have xb:w10.heap.size<wa.heap.size:=by rw[hwa];simp
             have hres:=hma.heap hr10 (fun e=>e);have r0:wa.cell? ⟨w.heap.size+1,0,none⟩=some (.int .i64 0):=(cell_of_heap hres 0).trans rfl;have r1:wa.cell? ⟨w.heap.size+1,1,none⟩=some (.int .i64 0):=(cell_of_heap hres 1).trans rfl;have rf0:=free_of_heap hres 0;have rf1:=free_of_heap hres 1
             have rb:=lt_of_block hres;have Hwa:=Lib.hid hwa;have Hma:=Lib.hid ((Hw9.out.trans0 hm10).trans0 hma);have Hm9a:=Lib.hid ((Hm.out.trans0 hm10).trans0 hma);clear hm10 hr10 hwa hma hres Hcf
             by_cases hc0:(chkR l).1=0
             ·have Hc0:=Lib.hid hc0
              have d0:decide (0<(chkR l).1)=false:=by rw[hc0];rfl
              clear hc0;go_wp2;rw[←Hwa.out]
              try go_wp2
              go_roundw
              case rel=>exact ⟨k+1,by omega,by go_num,Hm9a.out,fun j d hj hjd=>by
               by_cases e:j=k
               ·rw[e,Hl.out]at hjd;cases hjd;exact Hc0.out
               ·exact Hz.out j d (by omega) hjd⟩
              case measure=>simp[intOf];omega
             ·have hF:=codesF_at (codes:=codes) (s:=0) Hl.out Hz.out hc0;rw[Nat.zero_add]at hF;have HF:=Lib.hid hF
              have d0:decide (0<(chkR l).1)=true:=by simp;omega
              have Hma2:=Lib.hid (Hwa.out ▸ Hma.out);rw[Hwa.out]at r0 r1 rf0 rf1 rb x0;clear hc0 hF Hwa xb;go_wp2
              exact bodyPost_ret (v:=.agg #[.int .i64 (chkR l).1,.int .i64 k]) (by simp[results,Tryz.results21,go_sem,r0,r1]) rfl ⟨.inr ⟨Hgood.out,by rw[HF.out]⟩,two_set Hma2.out (by omega) _ _⟩
            ·have hd:decide ((k:Int)<(codes.length:Int))=false:=by simp;omega
             have hF:=codesF_none (r:=codes) (s:=0) (fun j d hjd=>Hz.out j d (by have:=(List.getElem?_eq_some_iff.1 hjd).1;omega) hjd);have HF:=Lib.hid hF;clear hF Hz
             go_wp2_with fail
             refine (fine_any _).mono ?_;rintro e w10 ⟨rfl,hm10⟩;have hres:=hm10.heap Hres9.out (fun e=>e);have r0:w10.cell? ⟨w.heap.size+1,0,none⟩=some (.int .i64 0):=(cell_of_heap hres 0).trans rfl;have r1:w10.cell? ⟨w.heap.size+1,1,none⟩=some (.int .i64 0):=(cell_of_heap hres 1).trans rfl
             have rf0:=free_of_heap hres 0;have rf1:=free_of_heap hres 1;have rb:=lt_of_block hres;have Hma:=Lib.hid (Hw9.out.trans0 hm10);clear hm10 hres;go_wp2
             exact bodyPost_ret (v:=.agg #[.int .i64 0,.int .i64 (-1)]) (by simp[results,Tryz.results21,go_sem,r0,r1]) rfl ⟨.inr ⟨Hgood.out,by rw[HF.out]⟩,two_set Hma.out (by omega) _ _⟩
end
section
open Go.RowKit Qs Qh
variable {w:World}{L:Lay}{m:M}{N:Int}
theorem tmod_fix(n k:Int)(hk:0<k):(if n.tmod k<0 then n.tmod k+k else n.tmod k)=n % k:=by
 have h1:=Int.emod_nonneg n (show k≠0 by omega);have h2:=Int.emod_lt_of_pos n hk
 by_cases h0:0≤n
 ·rw[Int.tmod_eq_emod_of_nonneg h0,if_neg (by omega)]
 ·have e:n.tmod k=if k∣n then 0 else n % k - k:=by
   rw[Int.tmod_eq_emod]
   by_cases hd:k∣n
   ·have:n % k=0:=Int.emod_eq_zero_of_dvd hd;simp[hd,this]
   ·simp[hd,h0];omega
  by_cases hd:k∣n
  ·have h3:n % k=0:=Int.emod_eq_zero_of_dvd hd;rw[e,if_pos hd,if_neg (by omega),h3]
  ·rw[e,if_neg hd,if_pos (by omega)];omega
theorem turn_at(m:M)(n:Int){q:Nat}(hq:n % (2*(m.T.length:Int))=q):m.turn n=if q<m.T.length then m.step q else m.drain (q - m.T.length):=by
 unfold M.turn;simp only[hq,Int.toNat_natCast]
theorem turn_any(X:Mach ty w L m N)(hE:Easy m)(hN:N≤1000000000)(n:Int)(hlo : -9223372036854775808≤n)(hhi:n≤9223372036854775807) :
  Calls Tryz.prog 67 #[.pointer (some ⟨L.blk 0 0,0,none⟩),.int .i64 n] w fun e w'=>e=.returned (.int .i64 (m.turn n).2)∧∃L',MUp ty w L m w' L' (m.turn n).1 (N+48):=by
 obtain ⟨t0,t1,t2,t3,t4,t5⟩:=X.top
 have ht6:m.T.length≤6:=by have:=X.om.waits;have:=X.ot.len;omega
 have ht1:=X.ot.t1
 have hk:(0:Int)<2*(m.T.length:Int):=by omega
 have hk0:(2*(m.T.length:Int)==0)=false:=by rw[beq_eq_false_iff_ne];omega
 have hfix:=tmod_fix n (2*(m.T.length:Int)) hk;have h1:=Int.emod_nonneg n (show (2*(m.T.length:Int))≠0 by omega);have h2:=Int.emod_lt_of_pos n hk;clear t4;obtain ⟨q,hq⟩:=Int.eq_ofNat_of_zero_le h1;have hta:=turn_at m n hq;rw[hq]at hfix h2;have HX:=Lib.hid X;have HE:=Lib.hid hE;have Hta:=Lib.hid hta
 clear X hE hq hta h1;obtain ⟨r,hr⟩:∃r,n.tmod (2*(m.T.length:Int))=r:=⟨_,rfl⟩;rw[hr]at hfix
 by_cases hneg:r<0
 ·rw[if_pos hneg]at hfix
  by_cases hqt:q<m.T.length
  ·have hd:decide ((q:Int)<(m.T.length:Int))=true:=by simp;omega
   go_enter Tryz.func67,Tryz.ntmps67
   go_wp2_with fail
   refine (step_any HX.out HE.out (by omega) q hqt).mono ?_;rintro e w5 ⟨rfl,h5⟩;have H5:=Lib.hid h5;clear h5;go_wp2;go_ret;rw[Hta.out,if_pos hqt];exact ⟨rfl,H5.out⟩
  ·obtain ⟨p,rfl⟩:∃p,q=m.T.length+p:=⟨q - m.T.length,by omega⟩
   have hp2:p<m.T.length:=by omega
   have hp3:m.T.length+p - m.T.length=p:=by omega
   rw[hp3]at Hta;rw[Int.natCast_add]at h2 hfix
   have hd:decide ((m.T.length:Int)+(p:Int)<(m.T.length:Int))=false:=by simp;omega
   have hsub:(m.T.length:Int)+(p:Int) - (m.T.length:Int)=p:=by omega
   clear hp3
   go_enter Tryz.func67,Tryz.ntmps67
   go_wp2_with fail
   refine (mdrain_any HX.out (by omega) p hp2).mono ?_;rintro e w5 ⟨rfl,L5,h5⟩;have H5:=Lib.hid h5;clear h5;go_wp2;go_ret;rw[Hta.out,if_neg hqt];exact ⟨rfl,L5,H5.out.mono (by omega)⟩
 ·rw[if_neg hneg]at hfix;subst hfix;clear hneg
  by_cases hqt:q<m.T.length
  ·have hd:decide ((q:Int)<(m.T.length:Int))=true:=by simp;omega
   go_enter Tryz.func67,Tryz.ntmps67
   go_wp2_with fail
   refine (step_any HX.out HE.out (by omega) q hqt).mono ?_;rintro e w5 ⟨rfl,h5⟩;have H5:=Lib.hid h5;clear h5;go_wp2;go_ret;rw[Hta.out,if_pos hqt];exact ⟨rfl,H5.out⟩
  ·obtain ⟨p,rfl⟩:∃p,q=m.T.length+p:=⟨q - m.T.length,by omega⟩
   have hp2:p<m.T.length:=by omega
   have hp3:m.T.length+p - m.T.length=p:=by omega
   rw[hp3]at Hta;rw[Int.natCast_add]at h2 hr
   have hd:decide ((m.T.length:Int)+(p:Int)<(m.T.length:Int))=false:=by simp;omega
   have hsub:(m.T.length:Int)+(p:Int) - (m.T.length:Int)=p:=by omega
   clear hp3
   go_enter Tryz.func67,Tryz.ntmps67
   go_wp2_with fail
   refine (mdrain_any HX.out (by omega) p hp2).mono ?_;rintro e w5 ⟨rfl,L5,h5⟩;have H5:=Lib.hid h5;clear h5;go_wp2;go_ret;rw[Hta.out,if_neg hqt];exact ⟨rfl,L5,H5.out.mono (by omega)⟩
end
section
open Go.RowKit Qs Qh
variable {w:World}{L:Lay}{m:M}{N:Int}
theorem Easy.keep{w':World}{L':Lay}{m':M}{N':Int}(h:Easy m)(U:MUp ty w L m w' L' m' N'):Easy m':=by
 intro t x' hx' i hi;obtain ⟨x,hx,e⟩:=U.thr t x' hx';rw[e]at hi;exact h t x hx i hi
theorem frame1{w w':World}{F:Nat→Prop}{v:Value}{l:List Int}(h:IntsAt w v l)(hM:Mod F w w')(hF:l≠[]→∀b,v.ownBlock=some b→¬F b):IntsAt w' v l:=by
 by_cases e:l=[]
 ·subst e;obtain ⟨a,c,rfl,hc,hx⟩:=h.at_;exact ⟨a,c,rfl,hc,fun i x hi=>by simp at hi⟩
 ·exact h.frame hM (hF e)
def runRel(w:World)(L:Lay)(m:M)(N:Int)(l:List Int)(k:Nat)(d i:Value)(wr:World):Prop:=
 i=.int .i64 k∧d=.int .i64 (m.run (l.take k)).2∧∃L',MUp ty w L m wr L' (m.run (l.take k)).1 (N+48*k)
theorem run_any(X:Mach ty w L m N)(hE:Easy m)(hN:N≤1000000)(v:Value)(l:List Int)(hl:IntsAt w v l)(hlen:l.length≤20000)(hw:∀x∈l,-9223372036854775808≤x∧x≤9223372036854775807)(hv:l≠[]→∀b,v.ownBlock=some b→¬Foot ty allK L m b) :
  Calls Tryz.prog 24 #[.pointer (some ⟨L.blk 0 0,0,none⟩),v] w fun e w'=>e=.returned (.int .i64 (m.run l).2)∧∃L',MUp ty w L m w' L' (m.run l).1 (N+48*l.length):=by
 obtain ⟨a,c,rfl,hcm,hcell⟩:=hl.at_;have HX:=Lib.hid X;have HE:=Lib.hid hE;have Hl:=Lib.hid hl;have Hw:=Lib.hid hw;have Hv:=Lib.hid hv;clear X hE hl hw hv hcell hcm
 go_enter Tryz.func24,Tryz.ntmps24
 go_wp2
 go_loopw [5,6,7] (fun d i _ wr=>∃k:Nat,k≤l.length∧runRel w L m N l k d i wr) (fun _ i _ _=>l.length - (intOf i).toNat)
 case atStart=>exact ⟨0,Nat.zero_le _,rfl,rfl,L,by simpa[M.run]using MUp.quiet HX.out (Mod.refl _ _)⟩
 case round=>
  rename_i wr
  obtain ⟨k,hk,rfl,rfl,Lr,Ur⟩:=hrel;have hd0:=M.run_two m (l.take k);have hlk:(l.take k).length≤k:=List.length_take_le _ _;generalize hmr:m.run (l.take k)=mr at *;obtain ⟨m1,d1⟩:=mr;simp only at hd0 Ur;have Hmr:=Lib.hid hmr;have HUr:=Lib.hid Ur;obtain ⟨hd0,hd1⟩:=hd0
  have hd2:d1≤20000:=by omega
  clear hmr Ur hlk
  by_cases hlt:k<l.length
  ·have hd:decide ((k:Int)<(l.length:Int))=true:=by simp;omega
   have hdd:decide ((k:Int)<20000)=true:=by simp;omega
   have hdd:((k:Int)<20000):=by omega
   obtain ⟨x,hx⟩:∃x,l[k]?=some x:=⟨_,List.getElem?_eq_getElem hlt⟩;have hwx:=Hw.out x (List.mem_of_getElem? hx);obtain ⟨hw0,hw1⟩:=hwx;have hI:=frame1 Hl.out HUr.out.mod Hv.out;obtain ⟨a',c',e',_,hcell⟩:=hI.at_;cases e';obtain ⟨b,off,rfl,hb,hc⟩:=hcell k x hx;have hE1:=HE.out.keep HUr.out
   have e0:=HUr.out.top.1;have hcall:=turn_any HUr.out.mach hE1 (by omega) x hw0 hw1;rw[e0]at hcall
   have htk:l.take (k+1)=l.take k++[x]:=by rw[List.take_succ_eq_append_getElem hlt];rw[List.getElem?_eq_getElem hlt]at hx;cases hx;rfl
   have hsn:=M.run_snoc m (l.take k) x;rw[←htk,Hmr.out]at hsn;have Hsn:=Lib.hid hsn;have Hcall:=Lib.hid hcall;have Hx:=Lib.hid hx;clear hx hI hcell hE1 e0 hcall htk hsn
   go_wp2_with fail
   refine Hcall.out.mono ?_;rintro e w5 ⟨rfl,L5,U5⟩;have HU5:=Lib.hid U5;clear U5
   by_cases hz:(m1.turn x).2=0
   ·rw[hz];have Hz:=Lib.hid hz;clear hz;go_wp2
    go_roundw
    case rel=>
     refine ⟨k+1,by omega,by go_num,?_,L5,?_⟩
     ·rw[Hsn.out,if_pos Hz.out]
     ·rw[Hsn.out];have:=(HUr.out.trans HU5.out);rw[show N+48*((k+1:Nat):Int)=N+48*(k:Int)+48 from by omega];exact this
    case measure=>simp[intOf];omega
   ·generalize htn:(m1.turn x).2=z at *
    have hzb:(z==0)=false:=by simpa using hz
    have Hz:=Lib.hid hz;have Htn:=Lib.hid htn;clear hz htn;go_wp2
    go_roundw
    case rel=>
     refine ⟨k+1,by omega,by go_num,?_,L5,?_⟩
     ·rw[Hsn.out];simp only;rw[if_neg Hz.out];simp
     ·rw[Hsn.out];have:=(HUr.out.trans HU5.out);rw[show N+48*((k+1:Nat):Int)=N+48*(k:Int)+48 from by omega];exact this
    case measure=>simp[intOf];omega
  ·have hd:decide ((k:Int)<(l.length:Int))=false:=by simp;omega
   obtain rfl:k=l.length:=by omega
   have htk:l.take l.length=l:=List.take_length;rw[htk]at Hmr;clear htk;go_wp2;go_ret;rw[Hmr.out];exact ⟨rfl,Lr,HUr.out⟩
end
end Go.Proofs.YtciaficoeajeaaaGreatDoor
