/- Texts that belong together, joined. -/
import Derived.Test.YtppihkneeolomaaGreatDoorSSm3
import Derived.Test.YtppihkneeolomaaGreatDoorSSStepA
import Derived.Test.YtppihkneeolomaaGreatDoorSSStepB
import Derived.Test.YtppihkneeolomaaGreatDoorSSStepC
import Derived.Test.YtppihkneeolomaaGreatDoorSSStepD
import Derived.Test.YtppihkneeolomaaGreatDoorSSStepE
import Derived.Test.YtppihkneeolomaaGreatDoorSSm8
import Derived.Test.YtppihkneeolomaaGreatDoorSSStepG
import Derived.Test.YtppihkneeolomaaGreatDoorSSStepH
import Derived.Test.YtppihkneeolomaaGreatDoorSSStepI
import Derived.Test.YtppihkneeolomaaGreatDoorSSStepJ
import Derived.Test.YtppihkneeolomaaGreatDoorSSStepL
import Derived.Test.YtppihkneeolomaaGreatDoorSSStepM
import Derived.Test.YtppihkneeolomaaGreatDoorSSStepN
import Derived.Test.YtppihkneeolomaaGreatDoorSSStepO
import Derived.Test.YtppihkneeolomaaGreatDoorSSStepP
import Derived.Test.YtppihkneeolomaaGreatDoorSSStepR
import Derived.Test.YtppihkneeolomaaGreatDoorSSStepS
import Derived.Outline
import Derived.Test.YtppihkneeolomaaGreatDoorSSm2
import Derived.Test.YtppihkneeolomaaGreatDoorSSm5
import Derived.Test.YtppihkneeolomaaGreatDoorSSm6
import Derived.Test.YtppihkneeolomaaGreatDoorSSm1
import Derived.Test.YtppihkneeolomaaGreatDoorSSm7
import Derived.Test.YtppihkneeolomaaGreatDoorSSNewWalk
import Derived.Deep.QuietTactic
import Derived.BigQuiet
set_option linter.unusedVariables false
set_option linter.unusedSimpArgs false
set_option linter.unusedSectionVars false
set_option maxHeartbeats 8000000
set_option maxRecDepth 100000
namespace Go.Proofs.YtppihkneeolomaaGreatDoor
section
open Go.RowKit Qs Qh
variable {w:World}{L:Lay}{m:M}{N:Int}
def easyOp(_:Nat):Bool:=true
def Easy(m:M):Prop:=∀(t:Nat) h,m.T[t]?=some h→∀x∈h.code,easyOp x.op=true
theorem step_done(X:Mach ty w L m N)(t:Nat)(ht:t<m.T.length)(hd:m.done t=true) :
  Calls Tryz.prog 83 #[.pointer (some ⟨L.blk 0 0,0,none⟩),.int .i64 t] w fun e w'=>e=.returned (.int .i64 9)∧Mod noF w w':=by
 obtain ⟨t0,t1,t2,t3,t4,t5⟩:=X.top
 have d0:decide ((t:Int)<0)=false:=by simp
 have d1:decide ((m.T.length:Int)≤(t:Int))=false:=by simp;omega
 have HX:=Lib.hid X;have Hdone:=Lib.hid hd;clear X hd t4
 go_enter Tryz.func83,Tryz.ntmps83
 go_wp2_with fail
 refine (done_any HX.out t ht).mono ?_;rintro e w1 ⟨rfl,hm⟩;rw[Hdone.out];have Hm:=Lib.hid hm;clear hm;go_wp2;go_ret;exact ⟨rfl,Hm.out⟩
theorem reg_nat{n k:Int}(h:isReg n k):∃a:Nat,n=a∧(a:Int)<k:=by
 obtain ⟨h0,h1⟩:=h;obtain ⟨a,rfl⟩:=Int.eq_ofNat_of_zero_le h0;exact ⟨a,rfl,h1⟩
theorem names_nat{m:M}{n rc rg:Int}(h:m.names n=some (rc,rg)):∃k:Nat,rc=k∧k<m.cells.length:=by
 unfold M.names at h
 cases hr:refOf n with
 |none=>rw[hr]at h;cases h
 |some p=>
  obtain ⟨a,b⟩:=p;rw[hr]at h;simp only at h
  split at h
  ·rename_i hh
   cases h;obtain ⟨h0,h1,_⟩:=hereIn_ge hh;obtain ⟨k,rfl⟩:=Int.eq_ofNat_of_zero_le h0;exact ⟨k,rfl,by omega⟩
  ·cases h
theorem exec_mark_ok{m:M}{t a p:Nat}{B C:Int}{to:List UInt8}{h:Thr}(hh:m.T[t]?=some h)(h5:m.marks.length<500):(m.setPc t p).exec t ⟨18,a,B,C,to⟩ = {m.setPc t p with marks:=m.marks++[((t:Int),h.regs.getD a 0)]}:=by
 simp only[M.exec,thr_setPc hh,Thr.reg,Int.toNat_natCast];rw[if_pos (show (m.setPc t p).marks.length<500 from h5)];rfl
theorem exec_mark_full{m:M}{t a p:Nat}{B C:Int}{to:List UInt8}(h5:¬m.marks.length<500):(m.setPc t p).exec t ⟨18,a,B,C,to⟩=m.setPc t p:=by
 simp only[M.exec];rw[if_neg (show ¬(m.setPc t p).marks.length<500 from h5)]
def StepTold(w:World)(L:Lay)(m:M)(N:Int)(t:Nat):Prop:=
 Calls Tryz.prog 83 #[.pointer (some ⟨L.blk 0 0,0,none⟩),.int .i64 t] w fun e w'=>e=.returned (.int .i64 (m.step t).2)∧∃L',MUp ty w L m w' L' (m.step t).1 (N+48)
theorem told{t:Nat}{h:Thr}{x:Instr}(hh:m.T[t]?=some h)(hx:h.code[h.pc]?=some x)(h20:x.op≠20){m':M}{N':Int}(hN':N'≤N+48)(he:(m.setPc t (h.pc+1)).exec t x=m')
  (hc:Calls Tryz.prog 83 #[.pointer (some ⟨L.blk 0 0,0,none⟩),.int .i64 t] w fun e w'=>e=.returned (.int .i64 0)∧∃L',MUp ty w L m w' L' m' N'):StepTold w L m N t:=by
 unfold StepTold;rw[step_eq hh hx h20];refine hc.mono ?_;rintro e w' ⟨rfl,L',U⟩;refine ⟨rfl,L',?_⟩;rw[he];exact U.mono hN'
theorem step_any(X:Mach ty w L m N)(hE:Easy m)(hN:N≤10000000000)(t:Nat)(ht:t<m.T.length) :
  Calls Tryz.prog 83 #[.pointer (some ⟨L.blk 0 0,0,none⟩),.int .i64 t] w fun e w'=>e=.returned (.int .i64 (m.step t).2)∧∃L',MUp ty w L m w' L' (m.step t).1 (N+48):=by
 show StepTold w L m N t;obtain ⟨h,hh⟩:∃h,m.T[t]?=some h:=⟨_,List.getElem?_eq_getElem ht⟩
 cases hx:h.code[h.pc]? with
 |none=>
  have hs:=Qh.step_end hh hx
  have hd:m.done t=true:=by unfold M.done;rw[thr_of hh,hx]
  unfold StepTold;rw[hs];refine (step_done X t ht hd).mono ?_;rintro e w' ⟨rfl,hm⟩;exact ⟨rfl,L,(MUp.quiet X hm).mono (by omega)⟩
 |some x=>
  by_cases h20:x.op=20
  ·have hs:=step_stop hh hx h20
   have hd:m.done t=true:=by unfold M.done;rw[thr_of hh,hx];simp[h20]
   unfold StepTold;rw[hs];refine (step_done X t ht hd).mono ?_;rintro e w' ⟨rfl,hm⟩;exact ⟨rfl,L,(MUp.quiet X hm).mono (by omega)⟩
  ·have hmem:x∈h.code:=List.mem_of_getElem? hx;have hco:=(X.ot.code t h hh).2;have hi:=hco.ins x hmem;have hlab:=hco.lab x hmem;obtain ⟨op,A,B,C,to⟩:=x
   rcases op_cases op with rfl|rfl|rfl|rfl|rfl|rfl|rfl|rfl|rfl|rfl|rfl|rfl|rfl|rfl|rfl|rfl|rfl|rfl|rfl|rfl|hbig
   ·obtain ⟨h1,hB⟩:=hi;obtain ⟨a,rfl,ha⟩:=reg_nat h1;exact told hh hx h20 (by omega) (exec_const hh) (step_const (b:=0) (c:=0) (A:=0) X hN t ht hh hx (by omega) hB)
   ·obtain ⟨h1,h2⟩:=hi;obtain ⟨a,rfl,ha⟩:=reg_nat h1;obtain ⟨b,rfl,hb⟩:=reg_nat h2;exact told hh hx h20 (by omega) (exec_move hh) (step_move (c:=0) (A:=0) (B:=0) X hN t ht hh hx (by omega) (by omega))
   ·obtain ⟨h1,h2,h3⟩:=hi;obtain ⟨a,rfl,ha⟩:=reg_nat h1;obtain ⟨b,rfl,hb⟩:=reg_nat h2;obtain ⟨c,rfl,hc⟩:=reg_nat h3;exact told hh hx h20 (by omega) (exec_add hh) (step_add (A:=0) (B:=0) (C:=0) X hN t ht hh hx (by omega) (by omega) (by omega))
   ·obtain ⟨h1,h2,h3⟩:=hi;obtain ⟨a,rfl,ha⟩:=reg_nat h1;obtain ⟨b,rfl,hb⟩:=reg_nat h2;obtain ⟨c,rfl,hc⟩:=reg_nat h3;exact told hh hx h20 (by omega) (exec_sub hh) (step_sub (A:=0) (B:=0) (C:=0) X hN t ht hh hx (by omega) (by omega) (by omega))
   ·obtain ⟨h1,h2,h3⟩:=hi;obtain ⟨a,rfl,ha⟩:=reg_nat h1;obtain ⟨b,rfl,hb⟩:=reg_nat h2;obtain ⟨c,rfl,hc⟩:=reg_nat h3;exact told hh hx h20 (by omega) (exec_and hh) (step_and (A:=0) (B:=0) (C:=0) X hN t ht hh hx (by omega) (by omega) (by omega))
   ·obtain ⟨h1,h2,h3⟩:=hi;obtain ⟨a,rfl,ha⟩:=reg_nat h1;obtain ⟨b,rfl,hb⟩:=reg_nat h2;obtain ⟨c,rfl,hc⟩:=reg_nat h3;exact told hh hx h20 (by omega) (exec_xor hh) (step_xor (A:=0) (B:=0) (C:=0) X hN t ht hh hx (by omega) (by omega) (by omega))
   ·obtain ⟨h1,h2,h3⟩:=hi;obtain ⟨a,rfl,ha⟩:=reg_nat h1;obtain ⟨b,rfl,hb⟩:=reg_nat h2
    cases hn:m.names (h.regs.getD b 0)with
    |none=>exact told hh hx h20 (by omega) (exec_load_none hh hn) (step_load_none (c:=0) (A:=0) (B:=0) X hN t ht hh hx (by omega) (by omega) hn)
    |some r=>exact told hh hx h20 (by omega) (exec_load_ok hh (rc:=r.1) (rg:=r.2) hn) (step_load_ok (c:=0) (A:=0) (B:=0) X hN t ht hh hx (by omega) (by omega) h3 hn)
   ·obtain ⟨h1,h2,h3⟩:=hi;obtain ⟨a,rfl,ha⟩:=reg_nat h1;obtain ⟨b,rfl,hb⟩:=reg_nat h2
    cases hn:m.names (h.regs.getD a 0)with
    |none=>exact told hh hx h20 (by omega) (exec_store_none hh hn) (step_store_none (c:=0) (A:=0) (B:=0) X hN t ht hh hx (by omega) (by omega) hn)
    |some r=>
     obtain ⟨l,hl⟩:∃l,m.waits[t]?=some l:=⟨_,List.getElem?_eq_getElem (by rw[X.ot.len];exact ht)⟩;have h8:=X.om.wlen t l hl
     by_cases h9:l.length<8
     ·exact told hh hx h20 (by omega) (exec_store_ok hh (rc:=r.1) (rg:=r.2) hn hl h9) (step_store_ok (c:=0) (A:=0) (B:=0) X hN t ht hh hx (by omega) (by omega) h3 hn hl h9)
     ·obtain ⟨y,q,rfl⟩:∃y q,l=y :: q:=by
       cases l with
       |nil=>simp at h9
       |cons y q=>exact ⟨y,q,rfl⟩
      have h7:q.length=7:=by simp at h8 h9;omega
      cases hin:hereIn m.cells y.c y.g with
      |true=>exact told hh hx h20 (by omega) (exec_store_full hh (rc:=r.1) (rg:=r.2) hn hl h7 hin) (step_store_full_ok (c:=0) (A:=0) (B:=0) X hN t ht hh hx (by omega) (by omega) h3 hn hl h7 hin)
      |false=>exact told hh hx h20 (by omega) (exec_store_full_bad hh (rc:=r.1) (rg:=r.2) hn hl h7 hin) (step_store_full_bad (c:=0) (A:=0) (B:=0) X hN t ht hh hx (by omega) (by omega) h3 hn hl h7 hin)
   ·obtain ⟨h1,h2,h3⟩:=hi;obtain ⟨a,rfl,ha⟩:=reg_nat h1;obtain ⟨b,rfl,hb⟩:=reg_nat h2;obtain ⟨c,rfl,hc⟩:=reg_nat h3
    cases hn:m.names (h.regs.getD b 0)with
    |none=>exact told hh hx h20 (by omega) (exec_swap_none hh hn) (step_swap_none (c:=0) (A:=0) (B:=0) X hN t ht hh hx (by omega) (by omega) hn)
    |some r=>
     obtain ⟨rc,rg⟩:=r;obtain ⟨k,rfl,hk⟩:=names_nat hn;exact told hh hx h20 (by omega) (exec_swap_ok hh hn) (step_swap_ok (A:=0) (B:=0) (C:=0) X hN t ht hh hx (by omega) (by omega) (by omega) hk hn)
   ·obtain ⟨h1,h2,h3⟩:=hi;obtain ⟨a,rfl,ha⟩:=reg_nat h1;obtain ⟨b,rfl,hb⟩:=reg_nat h2;obtain ⟨c,rfl,hc⟩:=reg_nat h3
    cases hn:m.names (h.regs.getD a 0)with
    |none=>exact told hh hx h20 (by omega) (exec_cas_none hh hn) (step_cas_none (c:=0) (A:=0) (B:=0) X hN t ht hh hx (by omega) (by omega) hn)
    |some r=>
     obtain ⟨rc,rg⟩:=r;obtain ⟨k,rfl,hk⟩:=names_nat hn;exact told hh hx h20 (by omega) (exec_cas_ok hh hn) (step_cas_ok (A:=0) (B:=0) (C:=0) X hN t ht hh hx (by omega) (by omega) (by omega) (by omega) hk hn)
   ·obtain ⟨a,rfl,ha⟩:=reg_nat hi
    cases hal:allocAt m.cells 0 with
    |none=>exact told hh hx h20 (by omega) (exec_alloc_none hal) (step_alloc_none (b:=0) (c:=0) (A:=0) X hN t ht hh hx (by omega) hal)
    |some r=>exact told hh hx h20 (by omega) (exec_alloc_ok (i:=r.1) (n:=r.2) hal) (step_alloc_ok (b:=0) (c:=0) (A:=0) X hN t ht hh hx (by omega) hal)
   ·obtain ⟨a,rfl,ha⟩:=reg_nat hi
    cases hn:m.names (h.regs.getD a 0)with
    |none=>exact told hh hx h20 (by omega) (exec_free_none hh hn) (step_free_none (b:=0) (c:=0) (A:=0) X hN t ht hh hx (by omega) hn)
    |some r=>
     obtain ⟨rc,rg⟩:=r;obtain ⟨k,rfl,hk⟩:=names_nat hn;exact told hh hx h20 (by omega) (exec_free_ok hh hn) (step_free_ok (b:=0) (c:=0) (A:=0) X hN t ht hh hx (by omega) hk hn)
   ·exact told hh hx h20 (by omega) exec_fence (step_fence (a:=0) (b:=0) (c:=0) X hN t ht hh hx)
   ·exact told hh hx h20 (by omega) exec_force (step_force (a:=0) (b:=0) (c:=0) X hN t ht hh hx)
   ·obtain ⟨a,rfl,ha⟩:=reg_nat hi;obtain ⟨i,hi⟩:=Option.isSome_iff_exists.1 (hlab (.inl rfl))
    by_cases hz:h.regs.getD a 0=0
    ·exact told hh hx h20 (by omega) (exec_zero_yes hh hi hz) (step_zero_yes (b:=0) (c:=0) (A:=0) X hN t ht hh hx (by omega) hi hz)
    ·exact told hh hx h20 (by omega) (exec_zero_no hh hz) (step_zero_no (b:=0) (c:=0) (A:=0) X hN t ht hh hx (by omega) hz)
   ·obtain ⟨h1,h2⟩:=hi;obtain ⟨a,rfl,ha⟩:=reg_nat h1;obtain ⟨b,rfl,hb⟩:=reg_nat h2;obtain ⟨i,hi⟩:=Option.isSome_iff_exists.1 (hlab (.inr (.inl rfl)))
    by_cases hz:h.regs.getD a 0=h.regs.getD b 0
    ·exact told hh hx h20 (by omega) (exec_same_yes hh hi hz) (step_same_yes (c:=0) (A:=0) (B:=0) X hN t ht hh hx (by omega) (by omega) hi hz)
    ·exact told hh hx h20 (by omega) (exec_same_no hh hz) (step_same_no (c:=0) (A:=0) (B:=0) X hN t ht hh hx (by omega) (by omega) hz)
   ·obtain ⟨i,hi⟩:=Option.isSome_iff_exists.1 (hlab (.inr (.inr rfl)));exact told hh hx h20 (by omega) (exec_goto hh hi) (step_goto (a:=0) (b:=0) (c:=0) X hN t ht hh hx hi)
   ·exact told hh hx h20 (by omega) exec_label (step_label (a:=0) (b:=0) (c:=0) X hN t ht hh hx)
   ·obtain ⟨a,rfl,ha⟩:=reg_nat hi
    by_cases h5:m.marks.length<500
    ·exact told hh hx h20 (by omega) (exec_mark_ok hh h5) (step_mark (b:=0) (c:=0) (A:=0) X hN t ht hh hx (by omega) h5)
    ·exact told hh hx h20 (by omega) (exec_mark_full h5) (step_mark_full (b:=0) (c:=0) (A:=0) X hN t ht hh hx (by omega) h5)
   ·obtain ⟨a,rfl,ha⟩:=reg_nat hi;exact told hh hx h20 (by omega) (exec_need hh) (step_need (b:=0) (c:=0) (A:=0) X hN t ht hh hx (by omega))
   ·have h21:¬op=20:=h20;have:op≤20:=insOk_le hi;omega
end
section
open Go.RowKit Qs Qh
variable {w:World}{L:Lay}{m:M}{N:Int}
theorem tmod_fix(n k:Int)(hk:0<k):(if n.tmod k<0 then n.tmod k+k else n.tmod k)=n % k:=by
 have h1:=Int.emod_nonneg n (show k≠0 by omega);have h2:=Int.emod_lt_of_pos n hk
 by_cases h0:0≤n
 ·rw[Int.tmod_eq_emod_of_nonneg h0,if_neg (by omega)]
 ·have e:n.tmod k=if k∣n then 0 else n % k - k:=by
   rw[Int.tmod_eq_emod]
   by_cases hd:k∣n
   ·have:n % k=0:=Int.emod_eq_zero_of_dvd hd;simp[hd,this]
   ·simp[hd,h0];omega
  by_cases hd:k∣n
  ·have h3:n % k=0:=Int.emod_eq_zero_of_dvd hd;rw[e,if_pos hd,if_neg (by omega),h3]
  ·rw[e,if_neg hd,if_pos (by omega)];omega
theorem turn_at(m:M)(n:Int){q:Nat}(hq:n % (2*(m.T.length:Int))=q):m.turn n=if q<m.T.length then m.step q else m.drain (q - m.T.length):=by
 unfold M.turn;simp only[hq,Int.toNat_natCast]
theorem turn_any(X:Mach ty w L m N)(hE:Easy m)(hN:N≤1000000000)(n:Int)(hlo : -9223372036854775808≤n)(hhi:n≤9223372036854775807) :
  Calls Tryz.prog 54 #[.pointer (some ⟨L.blk 0 0,0,none⟩),.int .i64 n] w fun e w'=>e=.returned (.int .i64 (m.turn n).2)∧∃L',MUp ty w L m w' L' (m.turn n).1 (N+48):=by
 obtain ⟨t0,t1,t2,t3,t4,t5⟩:=X.top
 have ht6:m.T.length≤6:=by have:=X.om.waits;have:=X.ot.len;omega
 have ht1:=X.ot.t1
 have hk:(0:Int)<2*(m.T.length:Int):=by omega
 have hk0:(2*(m.T.length:Int)==0)=false:=by rw[beq_eq_false_iff_ne];omega
 have hfix:=tmod_fix n (2*(m.T.length:Int)) hk;have h1:=Int.emod_nonneg n (show (2*(m.T.length:Int))≠0 by omega);have h2:=Int.emod_lt_of_pos n hk;clear t4;obtain ⟨q,hq⟩:=Int.eq_ofNat_of_zero_le h1;have hta:=turn_at m n hq;rw[hq]at hfix h2;have HX:=Lib.hid X;have HE:=Lib.hid hE;have Hta:=Lib.hid hta
 clear X hE hq hta h1;obtain ⟨r,hr⟩:∃r,n.tmod (2*(m.T.length:Int))=r:=⟨_,rfl⟩;rw[hr]at hfix
 by_cases hneg:r<0
 ·rw[if_pos hneg]at hfix
  by_cases hqt:q<m.T.length
  ·have hd:decide ((q:Int)<(m.T.length:Int))=true:=by simp;omega
   go_enter Tryz.func54,Tryz.ntmps54
   go_wp2_with fail
   refine (step_any HX.out HE.out (by omega) q hqt).mono ?_;rintro e w5 ⟨rfl,h5⟩;have H5:=Lib.hid h5;clear h5;go_wp2;go_ret;rw[Hta.out,if_pos hqt];exact ⟨rfl,H5.out⟩
  ·obtain ⟨p,rfl⟩:∃p,q=m.T.length+p:=⟨q - m.T.length,by omega⟩
   have hp2:p<m.T.length:=by omega
   have hp3:m.T.length+p - m.T.length=p:=by omega
   rw[hp3]at Hta;rw[Int.natCast_add]at h2 hfix
   have hd:decide ((m.T.length:Int)+(p:Int)<(m.T.length:Int))=false:=by simp;omega
   have hsub:(m.T.length:Int)+(p:Int) - (m.T.length:Int)=p:=by omega
   clear hp3
   go_enter Tryz.func54,Tryz.ntmps54
   go_wp2_with fail
   refine (mdrain_any HX.out (by omega) p hp2).mono ?_;rintro e w5 ⟨rfl,L5,h5⟩;have H5:=Lib.hid h5;clear h5;go_wp2;go_ret;rw[Hta.out,if_neg hqt];exact ⟨rfl,L5,H5.out.mono (by omega)⟩
 ·rw[if_neg hneg]at hfix;subst hfix;clear hneg
  by_cases hqt:q<m.T.length
  ·have hd:decide ((q:Int)<(m.T.length:Int))=true:=by simp;omega
   go_enter Tryz.func54,Tryz.ntmps54
   go_wp2_with fail
   refine (step_any HX.out HE.out (by omega) q hqt).mono ?_;rintro e w5 ⟨rfl,h5⟩;have H5:=Lib.hid h5;clear h5;go_wp2;go_ret;rw[Hta.out,if_pos hqt];exact ⟨rfl,H5.out⟩
  ·obtain ⟨p,rfl⟩:∃p,q=m.T.length+p:=⟨q - m.T.length,by omega⟩
   have hp2:p<m.T.length:=by omega
   have hp3:m.T.length+p - m.T.length=p:=by omega
   rw[hp3]at Hta;rw[Int.natCast_add]at h2 hr
   have hd:decide ((m.T.length:Int)+(p:Int)<(m.T.length:Int))=false:=by simp;omega
   have hsub:(m.T.length:Int)+(p:Int) - (m.T.length:Int)=p:=by omega
   clear hp3
   go_enter Tryz.func54,Tryz.ntmps54
   go_wp2_with fail
   refine (mdrain_any HX.out (by omega) p hp2).mono ?_;rintro e w5 ⟨rfl,L5,h5⟩;have H5:=Lib.hid h5;clear h5;go_wp2;go_ret;rw[Hta.out,if_neg hqt];exact ⟨rfl,L5,H5.out.mono (by omega)⟩
end
section
open Go.RowKit Qs Qh
variable {w:World}{L:Lay}{m:M}{N:Int}
theorem Easy.keep{w':World}{L':Lay}{m':M}{N':Int}(h:Easy m)(U:MUp ty w L m w' L' m' N'):Easy m':=by
 intro t x' hx' i hi;obtain ⟨x,hx,e⟩:=U.thr t x' hx';rw[e]at hi;exact h t x hx i hi
theorem frame1{w w':World}{F:Nat→Prop}{v:Value}{l:List Int}(h:IntsAt w v l)(hM:Mod F w w')(hF:l≠[]→∀b,v.ownBlock=some b→¬F b):IntsAt w' v l:=by
 by_cases e:l=[]
 ·subst e;obtain ⟨a,c,rfl,hc,hx⟩:=h.at_;exact ⟨a,c,rfl,hc,fun i x hi=>by simp at hi⟩
 ·exact h.frame hM (hF e)
def runRel(w:World)(L:Lay)(m:M)(N:Int)(l:List Int)(k:Nat)(d i:Value)(wr:World):Prop:=
 i=.int .i64 k∧d=.int .i64 (m.run (l.take k)).2∧∃L',MUp ty w L m wr L' (m.run (l.take k)).1 (N+48*k)
theorem run_any(X:Mach ty w L m N)(hE:Easy m)(hN:N≤1000000)(v:Value)(l:List Int)(hl:IntsAt w v l)(hlen:l.length≤20000)(hw:∀x∈l,-9223372036854775808≤x∧x≤9223372036854775807)(hv:l≠[]→∀b,v.ownBlock=some b→¬Foot ty allK L m b) :
  Calls Tryz.prog 16 #[.pointer (some ⟨L.blk 0 0,0,none⟩),v] w fun e w'=>e=.returned (.int .i64 (m.run l).2)∧∃L',MUp ty w L m w' L' (m.run l).1 (N+48*l.length):=by
 obtain ⟨a,c,rfl,hcm,hcell⟩:=hl.at_;have HX:=Lib.hid X;have HE:=Lib.hid hE;have Hl:=Lib.hid hl;have Hw:=Lib.hid hw;have Hv:=Lib.hid hv;clear X hE hl hw hv hcell hcm
 go_enter Tryz.func16,Tryz.ntmps16
 go_wp2
 go_loopw [5,6,7] (fun d i _ wr=>∃k:Nat,k≤l.length∧runRel w L m N l k d i wr) (fun _ i _ _=>l.length - (intOf i).toNat)
 case atStart=>exact ⟨0,Nat.zero_le _,rfl,rfl,L,by simpa[M.run]using MUp.quiet HX.out (Mod.refl _ _)⟩
 case round=>
  rename_i wr
  obtain ⟨k,hk,rfl,rfl,Lr,Ur⟩:=hrel;have hd0:=M.run_two m (l.take k);have hlk:(l.take k).length≤k:=List.length_take_le _ _;generalize hmr:m.run (l.take k)=mr at *;obtain ⟨m1,d1⟩:=mr;simp only at hd0 Ur;have Hmr:=Lib.hid hmr;have HUr:=Lib.hid Ur;obtain ⟨hd0,hd1⟩:=hd0
  have hd2:d1≤20000:=by omega
  clear hmr Ur hlk
  by_cases hlt:k<l.length
  ·have hd:decide ((k:Int)<(l.length:Int))=true:=by simp;omega
   have hdd:decide ((k:Int)<20000)=true:=by simp;omega
   have hdd:((k:Int)<20000):=by omega
   obtain ⟨x,hx⟩:∃x,l[k]?=some x:=⟨_,List.getElem?_eq_getElem hlt⟩;have hwx:=Hw.out x (List.mem_of_getElem? hx);obtain ⟨hw0,hw1⟩:=hwx;have hI:=frame1 Hl.out HUr.out.mod Hv.out;obtain ⟨a',c',e',_,hcell⟩:=hI.at_;cases e';obtain ⟨b,off,rfl,hb,hc⟩:=hcell k x hx;have hE1:=HE.out.keep HUr.out
   have e0:=HUr.out.top.1;have hcall:=turn_any HUr.out.mach hE1 (by omega) x hw0 hw1;rw[e0]at hcall
   have htk:l.take (k+1)=l.take k++[x]:=by rw[List.take_succ_eq_append_getElem hlt];rw[List.getElem?_eq_getElem hlt]at hx;cases hx;rfl
   have hsn:=M.run_snoc m (l.take k) x;rw[←htk,Hmr.out]at hsn;have Hsn:=Lib.hid hsn;have Hcall:=Lib.hid hcall;have Hx:=Lib.hid hx;clear hx hI hcell hE1 e0 hcall htk hsn
   go_wp2_with fail
   refine Hcall.out.mono ?_;rintro e w5 ⟨rfl,L5,U5⟩;have HU5:=Lib.hid U5;clear U5
   by_cases hz:(m1.turn x).2=0
   ·rw[hz];have Hz:=Lib.hid hz;clear hz;go_wp2
    go_roundw
    case rel=>
     refine ⟨k+1,by omega,by go_num,?_,L5,?_⟩
     ·rw[Hsn.out,if_pos Hz.out]
     ·rw[Hsn.out];have:=(HUr.out.trans HU5.out);rw[show N+48*((k+1:Nat):Int)=N+48*(k:Int)+48 from by omega];exact this
    case measure=>simp[intOf];omega
   ·generalize htn:(m1.turn x).2=z at *
    have hzb:(z==0)=false:=by simpa using hz
    have Hz:=Lib.hid hz;have Htn:=Lib.hid htn;clear hz htn;go_wp2
    go_roundw
    case rel=>
     refine ⟨k+1,by omega,by go_num,?_,L5,?_⟩
     ·rw[Hsn.out];simp only;rw[if_neg Hz.out];simp
     ·rw[Hsn.out];have:=(HUr.out.trans HU5.out);rw[show N+48*((k+1:Nat):Int)=N+48*(k:Int)+48 from by omega];exact this
    case measure=>simp[intOf];omega
  ·have hd:decide ((k:Int)<(l.length:Int))=false:=by simp;omega
   obtain rfl:k=l.length:=by omega
   have htk:l.take l.length=l:=List.take_length;rw[htk]at Hmr;clear htk;go_wp2;go_ret;rw[Hmr.out];exact ⟨rfl,Lr,HUr.out⟩
end
end Go.Proofs.YtppihkneeolomaaGreatDoor
section
namespace Qh
open Go Go.RowKit Qs
variable {w w':World}{v:Value}
theorem RowsAt.keepM{ll:List (List Int)}(h:RowsAt w v ll)(hM:Mod noF w w'):RowsAt w' v ll:=by
 obtain ⟨a,c,e,hx⟩:=h;refine ⟨a,c,e,fun i l hi=>?_⟩;obtain ⟨b,off,u,e1,hb,hc,hi2,ho⟩:=hx i l hi;exact ⟨b,off,u,e1,Nat.lt_of_lt_of_le hb hM.size,hM.cell hc (fun e=>e),hi2.frame0 hM,fun g hg=>Nat.lt_of_lt_of_le (ho g hg) hM.size⟩
theorem CodesAt.keepM{cs:List (List Instr)}{cv:Nat→Value}(h:CodesAt w v cs cv)(hM:Mod noF w w'):CodesAt w' v cs cv:=by
 obtain ⟨a,c,e,hx⟩:=h;refine ⟨a,c,e,fun i l hi=>?_⟩;obtain ⟨b,off,e1,hb,hc,hi2,ho⟩:=hx i l hi;exact ⟨b,off,e1,Nat.lt_of_lt_of_le hb hM.size,hM.cell hc (fun e=>e),hi2.frame hM (fun _ _ e=>e),fun g hg=>Nat.lt_of_lt_of_le (ho g hg) hM.size⟩
theorem Mach.head{τ : Ty}{L:Lay}{m:M}{N:Int}(X:Mach τ w L m N):w.heap[L.blk 0 0]?=some (.cells #[.pointer (some ⟨L.blk 1 0,0,none⟩),L.row 4 0 m.T.length,L.row 5 0 m.marks.length,.int .i64 m.faults] τ.mach (0,0)):=
 X.rep.at_ 0 0 _ _ rfl rfl
theorem Mach.told{τ : Ty}{L:Lay}{m:M}{N:Int}(X:Mach τ w L m N):∃a c,L.row 5 0 m.marks.length=.slice a m.marks.length c∧∀(i:Nat) x,m.marks[i]?=some x→∃b,a=some ⟨b,0,none⟩∧b<w.heap.size∧w.cell? ⟨b,i*2,none⟩=some (.int .i64 x.1)∧w.cell? ⟨b,i*2+1,none⟩=some (.int .i64 x.2):=by
 cases hn:L.nil 5 0 with
 |true=>
  have h0:=X.olt.n5 hn;refine ⟨none,0,by simp[Lay.row,hn,h0],fun i x hi=>by rw[h0]at hi;simp at hi⟩
 |false=>
  have hh:=X.rep.at_ 5 0 _ _ rfl (obj5 τ m hn);refine ⟨_,_,row_some hn,fun i x hi=>⟨_,rfl,lt_of_block hh,?_,?_⟩⟩
  ·rw[cell_of_heap hh];have:=flat_get markVals 2 (fun _ _=>rfl) (show 0<2 by omega) m.marks 0 i x hi (L.junk 5 0)
   simpa[markVals,iv]using this
  ·rw[cell_of_heap hh];have:=flat_get markVals 2 (fun _ _=>rfl) (show 1<2 by omega) m.marks 0 i x hi (L.junk 5 0)
   simpa[markVals,iv]using this
end Qh
namespace Go.Proofs.YtppihkneeolomaaGreatDoor
open Go.RowKit Qs Qh
theorem intInfo':(Tryz.prog.info? 3).map (fun i=>(i.zero,i.size,i.bytes))=some (some (.int .i64 0),1,8):=by kernel_rfl
theorem easy_any(m:M):Easy m:=fun t h ht x hx=>rfl
end Go.Proofs.YtppihkneeolomaaGreatDoor
end
namespace Go.Proofs.YtppihkneeolomaaGreatDoor
section
open Go.RowKit Qs Qh
variable {N:Nat}{w w' w1:World}{v u x:Value}{z:List Int}
theorem marked_ok(B:Nat)(ta:Option Addr)(tc:Nat)(mk:List (Int × Int))(h2:w.cell? ⟨B,2,none⟩=some (.slice ta mk.length tc))(hmk:∀(i:Nat) x,mk[i]?=some x→∃b,ta=some ⟨b,0,none⟩∧b<w.heap.size∧w.cell? ⟨b,i*2,none⟩=some (.int .i64 x.1)∧w.cell? ⟨b,i*2+1,none⟩=some (.int .i64 x.2))(h500:mk.length≤500) :
  Calls Tryz.prog 18 #[.pointer (some ⟨B,0,none⟩)] w fun e w'=>∃x,e=.returned x∧Mod noF w w'∧IOwn w' x (mk.map (·.2))∧∀g,x.ownBlock=some g→w.heap.size≤g:=by
 have Hmk:=Lib.hid hmk;clear hmk;obtain ⟨i0,hti,hz0,hz1,hz2⟩:=info_parts intInfo'
 go_enter Tryz.func18,Tryz.ntmps18
 go_wp2
 go_loopw [3,4] (fun x i wr=>∃k:Nat,k≤mk.length∧i=.int .i64 k∧Mod noF w wr∧IOwn wr x ((mk.take k).map (·.2))∧∀g,x.ownBlock=some g→w.heap.size≤g) (fun _ i _=>mk.length - (intOf i).toNat)
 case atStart=>exact ⟨0,Nat.zero_le _,rfl,Mod.refl _ _,IOwn.nil _,fun g h=>by cases h⟩
 case round=>
  obtain ⟨k,hk,rfl,hm,hO,hv⟩:=hrel;obtain ⟨xa,xb,xc,rfl⟩:=slice_of_own hO;have y2:=hm.cell h2 (fun e=>e)
  by_cases hlt:k<mk.length
  ·have hd:decide ((k:Int)<(mk.length:Int))=true:=by simp;omega
   have hki:(k:Int)<(mk.length:Int):=by omega
   obtain ⟨y,hy⟩:∃y,mk[k]?=some y:=⟨_,List.getElem?_eq_getElem hlt⟩;obtain ⟨b,rfl,hb,-,h1⟩:=Hmk.out k y hy;have k1:=hm.cell h1 (fun e=>e)
   have htk:(mk.take (k+1)).map (·.2)=(mk.take k).map (·.2)++[y.2]:=by rw[List.take_add_one,hy];simp
   obtain ⟨zz,hzz⟩:∃zz,zz=(mk.take k).map (·.2):=⟨_,rfl⟩
   have hzl:zz.length≤500:=by rw[hzz];simp;omega
   rw[←hzz]at hO htk;have Hm:=Lib.hid hm;have HO:=Lib.hid hO;have Hv:=Lib.hid hv;have Htk:=Lib.hid htk
   have hbnd:zz.length+1≤maxLen:=by unfold maxLen;omega
   clear hm hO hv htk hy hzz h1
   go_wp2_with (at_builtin;refine wpList_append_mine _ rfl (.tmp 14) (.tmp 23) 23 rfl 3 i0 (.int .i64 0) 1 8 Tryz.underlying23 hti hz0 hz1 hz2 rfl (by decide) _ zz.length (zz.map (Value.int .i64)) rfl (by exact World.ownsRow.alloc HO.out _) ⟨wr.heap.size,0,none⟩ 1 1 [.int .i64 y.2] rfl rfl (by exact new_cells_at _ _ _ rfl) (int_one y.2) hbnd (by omega) ?_;intro v4 w7 hown hgr hfr _;obtain ⟨va,vb,vc,rfl⟩:=slice_of_own hown;have Hown4:=Lib.hid hown;have Hgr:=Lib.hid hgr;have Hfr:=Lib.hid hfr;clear hown hgr hfr)
   go_wp2
   go_roundw
   case rel=>
    have hs:=Hm.out.size;refine ⟨k+1,by omega,by go_num,(Hm.out.alloc _).trans ((Mod.refl (fun x=>(Value.slice xa xb xc).ownBlock=some x) _).grown Hgr.out fun j hj _=>hj) fun x hx e=>?_,by rw[Htk.out];exact IOwn.snoc Hown4.out,fun g hg=>?_⟩
    ·have:=Hv.out x e;omega
    ·rcases Hfr.out g hg with e|e
     ·exact Hv.out g e
     ·simp at e;omega
   case measure=>simp[intOf];omega
  ·have hd:decide ((k:Int)<(mk.length:Int))=false:=by simp;omega
   obtain rfl:k=mk.length:=by omega
   rw[List.take_length]at hO;have Hm:=Lib.hid hm;have HO:=Lib.hid hO;have Hv:=Lib.hid hv;clear hm hO hv;go_wp2;go_ret;exact ⟨_,rfl,Hm.out,HO.out,Hv.out⟩
theorem count_one(x y:Int):List.count y (some x).toList=if x=y then 1 else 0:=by
 show List.count y [x]=_
 by_cases e:x=y
 ·subst e;simp
 ·rw[if_neg e];exact List.count_eq_zero.2 (fun h=>e (List.mem_singleton.1 h).symm)
theorem count_ok(y:Int)(hI:IntsAt w v z)(hl:z.length≤1000):Calls Tryz.prog 55 #[v,.int .i64 y] w fun e w'=>e=.returned (.int .i64 (z.count y))∧w'=w:=by
 obtain ⟨a,c,rfl,hcm,hx⟩:=hI.at_;have Hx:=Lib.hid hx;clear hx hI hcm
 go_enter Tryz.func55,Tryz.ntmps55
 go_wp2
 go_loop [5,6] (fun m i=>∃k:Nat,k≤z.length∧i=.int .i64 k∧m=.int .i64 ((z.take k).count y)) (fun _ i=>z.length - (intOf i).toNat)
 case atStart=>exact ⟨0,Nat.zero_le _,rfl,rfl⟩
 case round=>
  obtain ⟨k,hk,rfl,rfl⟩:=hrel;have hc:=List.count_le_length (a:=y) (l:=z.take k);rw[List.length_take]at hc
  by_cases hlt:k<z.length
  ·have hd:decide ((k:Int)<(z.length:Int))=true:=by simp;omega
   have hki:(k:Int)<(z.length:Int):=by omega
   obtain ⟨x,hxk⟩:∃x,z[k]?=some x:=⟨_,List.getElem?_eq_getElem hlt⟩;obtain ⟨b,off,rfl,hb,hcell⟩:=Hx.out k x hxk
   have htk:(z.take (k+1)).count y=(z.take k).count y+(if x=y then 1 else 0):=by
    rw[List.take_add_one,hxk,List.count_append,count_one]
   generalize (z.take k).count y=n at *
   by_cases e:x=y
   ·subst e;rw[if_pos rfl]at htk;have Htk:=Lib.hid htk;clear htk hxk;go_wp2
    go_round
    case rel=>exact ⟨k+1,by omega,by go_num,by rw[Htk.out];rfl⟩
    case measure=>simp[intOf];omega
   ·rw[if_neg e]at htk;have Htk:=Lib.hid htk
    have he1:decide (x=y)=false:=by simpa using e
    have he2:(x==y)=false:=by simpa using e
    clear htk hxk;go_wp2
    go_round
    case rel=>exact ⟨k+1,by omega,by go_num,by rw[Htk.out];rfl⟩
    case measure=>simp[intOf];omega
  ·have hd:decide ((k:Int)<(z.length:Int))=false:=by simp;omega
   obtain rfl:k=z.length:=by omega
   rw[List.take_length];go_wp2;go_ret;exact ⟨rfl,rfl⟩
def withinB(a b:List Int):Bool:=a.all fun x=>decide (a.count x≤b.count x)
theorem within_ok{va vb:Value}{a b:List Int}(ha:IntsAt w va a)(hb:IntsAt w vb b)(la:a.length≤1000)(lb:b.length≤1000)(hw:withinB a b=true) :
  Calls Tryz.prog 19 #[va,vb] w fun e w'=>e=.returned (.bool true)∧Mod noF w w':=by
 have HA:=Lib.hid ha;have HB:=Lib.hid hb;obtain ⟨pa,ca,rfl,-,hxa⟩:=ha.at_;have Hxa:=Lib.hid hxa;have Hw:=Lib.hid hw;clear ha hb hxa hw
 go_enter Tryz.func19,Tryz.ntmps19
 go_wp2
 go_loopw [5] (fun i wr=>∃k:Nat,k≤a.length∧i=.int .i64 k∧Mod noF w wr) (fun i _=>a.length - (intOf i).toNat)
 case atStart=>exact ⟨0,Nat.zero_le _,rfl,Mod.refl _ _⟩
 case round=>
  obtain ⟨k,hk,rfl,hm⟩:=hrel
  by_cases hlt:k<a.length
  ·have hd:decide ((k:Int)<(a.length:Int))=true:=by simp;omega
   have hki:(k:Int)<(a.length:Int):=by omega
   obtain ⟨x,hxk⟩:∃x,a[k]?=some x:=⟨_,List.getElem?_eq_getElem hlt⟩;obtain ⟨q,off,rfl,hq,hcell⟩:=Hxa.out k x hxk;have c0:=hm.cell hcell (fun e=>e)
   have hcnt:a.count x≤b.count x:=by
    have:=List.all_eq_true.1 Hw.out x (List.mem_of_getElem? hxk)
    simpa using this
   have hd2:decide (((b.count x:Nat):Int)<((a.count x:Nat):Int))=false:=by simp;omega
   have hd3:decide (b.count x<a.count x)=false:=by simp;omega
   have ha':=HA.out.frame0 hm;have hb':=HB.out.frame0 hm
   have Hc1:Hid (∀n,Calls Tryz.prog 55 #[.slice (some ⟨q,off,none⟩) a.length ca,.int .i64 x] (wr.drewN n) fun e w'=>e=.returned (.int .i64 (a.count x))∧w'=wr.drewN n):=Lib.hid fun n=>count_ok x (ha'.frame0 ((Mod.refl noF _).drewN n)) la
   have Hc2:Hid (∀n,Calls Tryz.prog 55 #[vb,.int .i64 x] (wr.drewN n) fun e w'=>e=.returned (.int .i64 (b.count x))∧w'=wr.drewN n):=Lib.hid fun n=>count_ok x (hb'.frame0 ((Mod.refl noF _).drewN n)) lb;have Hm:=Lib.hid hm;generalize a.count x=na at *
   generalize b.count x=nb at *;clear hm hcell hxk ha' hb' hcnt;go_wp2
   go_quiet (first|(go_at_call 55;with_reducible exact Calls.quiet_of_same (w:=wr) (v:=.int .i64 na) (Hc1.out _))|(go_at_call 55;with_reducible exact Calls.quiet_of_same (w:=wr) (v:=.int .i64 nb) (Hc2.out _)))
   go_wp2;refine ⟨⟨k+1,by omega,by go_num,Hm.out.drewN _⟩,by simp[intOf];omega⟩
  ·have hd:decide ((k:Int)<(a.length:Int))=false:=by simp;omega
   have Hm:=Lib.hid hm;clear hm;go_wp2;go_ret;exact ⟨rfl,Hm.out⟩
end
end Go.Proofs.YtppihkneeolomaaGreatDoor
