/- Texts that belong together, joined. -/
import Derived.Test.YtppihkneeolomaaGreatDoorCSm3
import Derived.Test.YtppihkneeolomaaGreatDoorCSStepA
import Derived.Test.YtppihkneeolomaaGreatDoorCSStepB
import Derived.Test.YtppihkneeolomaaGreatDoorCSStepC
import Derived.Test.YtppihkneeolomaaGreatDoorCSStepD
import Derived.Test.YtppihkneeolomaaGreatDoorCSStepE
import Derived.Test.YtppihkneeolomaaGreatDoorCSm8
import Derived.Test.YtppihkneeolomaaGreatDoorCSStepG
import Derived.Test.YtppihkneeolomaaGreatDoorCSStepH
import Derived.Test.YtppihkneeolomaaGreatDoorCSStepI
import Derived.Test.YtppihkneeolomaaGreatDoorCSStepJ
import Derived.Test.YtppihkneeolomaaGreatDoorCSStepL
import Derived.Test.YtppihkneeolomaaGreatDoorCSStepM
import Derived.Test.YtppihkneeolomaaGreatDoorCSStepN
import Derived.Test.YtppihkneeolomaaGreatDoorCSStepO
import Derived.Test.YtppihkneeolomaaGreatDoorCSStepP
import Derived.Test.YtppihkneeolomaaGreatDoorCSStepR
import Derived.Test.YtppihkneeolomaaGreatDoorCSStepS
import Derived.Outline
import Derived.Test.YtppihkneeolomaaGreatDoorCSm2
import Derived.Test.YtppihkneeolomaaGreatDoorCSm5
import Derived.Test.YtppihkneeolomaaGreatDoorCSm6
import Derived.Test.YtppihkneeolomaaGreatDoorCSm1
import Derived.Test.YtppihkneeolomaaGreatDoorCSm7
import Derived.Test.YtppihkneeolomaaGreatDoorCSNewWalk
import Derived.Deep.QuietTactic
import Derived.BigQuiet
set_option linter.unusedVariables false
set_option linter.unusedSimpArgs false
set_option linter.unusedSectionVars false
set_option maxHeartbeats 1000000
set_option maxRecDepth 100000
namespace Go.Proofs.YtppihkneeolomaaGreatDoor
section
open Go.RowKit Qs Qh
variable {w:World}{L:Lay}{m:M}{N:Int}
def easyOp(_:Nat):Bool:=true
def Easy(m:M):Prop:=∀(t:Nat) h,m.T[t]?=some h→∀x∈h.code,easyOp x.op=true
theorem step_done(X:Mach ty w L m N)(t:Nat)(ht:t<m.T.length)(hd:m.done t=true) :
  Calls Tryz.prog 83 #[.pointer (some ⟨L.blk 0 0,0,none⟩),.int .i64 t] w fun e w'=>e=.returned (.int .i64 9)∧Mod noF w w':=by
 obtain ⟨t0,t1,t2,t3,t4,t5⟩:=X.top
 have d0:decide ((t:Int)<0)=false:=by simp
 have d1:decide ((m.T.length:Int)≤(t:Int))=false:=by simp;omega
 have HX:=Lib.hid X
 have Hdone:=Lib.hid hd
 clear X hd t4
 go_enter Tryz.func83,Tryz.ntmps83
 go_wp2_with fail
 refine (done_any HX.out t ht).mono ?_
 rintro e w1 ⟨rfl,hm⟩
 rw[Hdone.out]
 have Hm:=Lib.hid hm
 clear hm
 go_wp2
 go_ret
 exact ⟨rfl,Hm.out⟩
theorem reg_nat{n k:Int}(h:isReg n k):∃a:Nat,n=a∧(a:Int)<k:=by
 obtain ⟨h0,h1⟩:=h
 obtain ⟨a,rfl⟩:=Int.eq_ofNat_of_zero_le h0
 exact ⟨a,rfl,h1⟩
theorem names_nat{m:M}{n rc rg:Int}(h:m.names n=some (rc,rg)):∃k:Nat,rc=k∧k<m.cells.length:=by
 unfold M.names at h
 cases hr:refOf n with
 |none=>rw[hr]at h;cases h
 |some p=>
  obtain ⟨a,b⟩:=p
  rw[hr]at h
  simp only at h
  split at h
  ·rename_i hh
   cases h
   obtain ⟨h0,h1,_⟩:=hereIn_ge hh
   obtain ⟨k,rfl⟩:=Int.eq_ofNat_of_zero_le h0
   exact ⟨k,rfl,by omega⟩
  ·cases h
theorem exec_mark_ok{m:M}{t a p:Nat}{B C:Int}{to:List UInt8}{h:Thr}(hh:m.T[t]?=some h)(h5:m.marks.length<500):(m.setPc t p).exec t ⟨18,a,B,C,to⟩ = {m.setPc t p with marks:=m.marks++[((t:Int),h.regs.getD a 0)]}:=by
 simp only[M.exec,thr_setPc hh,Thr.reg,Int.toNat_natCast]
 rw[if_pos (show (m.setPc t p).marks.length<500 from h5)]
 rfl
theorem exec_mark_full{m:M}{t a p:Nat}{B C:Int}{to:List UInt8}(h5:¬m.marks.length<500):(m.setPc t p).exec t ⟨18,a,B,C,to⟩=m.setPc t p:=by
 simp only[M.exec]
 rw[if_neg (show ¬(m.setPc t p).marks.length<500 from h5)]
def StepTold(w:World)(L:Lay)(m:M)(N:Int)(t:Nat):Prop:=
 Calls Tryz.prog 83 #[.pointer (some ⟨L.blk 0 0,0,none⟩),.int .i64 t] w fun e w'=>e=.returned (.int .i64 (m.step t).2)∧∃L',MUp ty w L m w' L' (m.step t).1 (N+48)
theorem told{t:Nat}{h:Thr}{x:Instr}(hh:m.T[t]?=some h)(hx:h.code[h.pc]?=some x)(h20:x.op≠20){m':M}{N':Int}(hN':N'≤N+48)(he:(m.setPc t (h.pc+1)).exec t x=m')
  (hc:Calls Tryz.prog 83 #[.pointer (some ⟨L.blk 0 0,0,none⟩),.int .i64 t] w fun e w'=>e=.returned (.int .i64 0)∧∃L',MUp ty w L m w' L' m' N'):StepTold w L m N t:=by
 unfold StepTold
 rw[step_eq hh hx h20]
 refine hc.mono ?_
 rintro e w' ⟨rfl,L',U⟩
 refine ⟨rfl,L',?_⟩
 rw[he]
 exact U.mono hN'
theorem step_any(X:Mach ty w L m N)(hE:Easy m)(hN:N≤10000000000)(t:Nat)(ht:t<m.T.length) :
  Calls Tryz.prog 83 #[.pointer (some ⟨L.blk 0 0,0,none⟩),.int .i64 t] w fun e w'=>e=.returned (.int .i64 (m.step t).2)∧∃L',MUp ty w L m w' L' (m.step t).1 (N+48):=by
 show StepTold w L m N t
 obtain ⟨h,hh⟩:∃h,m.T[t]?=some h:=⟨_,List.getElem?_eq_getElem ht⟩
 cases hx:h.code[h.pc]? with
 |none=>
  have hs:=Qh.step_end hh hx
  have hd:m.done t=true:=by unfold M.done;rw[thr_of hh,hx]
  unfold StepTold
  rw[hs]
  refine (step_done X t ht hd).mono ?_
  rintro e w' ⟨rfl,hm⟩
  exact ⟨rfl,L,(MUp.quiet X hm).mono (by omega)⟩
 |some x=>
  by_cases h20:x.op=20
  ·have hs:=step_stop hh hx h20
   have hd:m.done t=true:=by unfold M.done;rw[thr_of hh,hx];simp[h20]
   unfold StepTold
   rw[hs]
   refine (step_done X t ht hd).mono ?_
   rintro e w' ⟨rfl,hm⟩
   exact ⟨rfl,L,(MUp.quiet X hm).mono (by omega)⟩
  ·have hmem:x∈h.code:=List.mem_of_getElem? hx
   have hco:=(X.ot.code t h hh).2
   have hi:=hco.ins x hmem
   have hlab:=hco.lab x hmem
   obtain ⟨op,A,B,C,to⟩:=x
   rcases op_cases op with rfl|rfl|rfl|rfl|rfl|rfl|rfl|rfl|rfl|rfl|rfl|rfl|rfl|rfl|rfl|rfl|rfl|rfl|rfl|rfl|hbig
   ·obtain ⟨h1,hB⟩:=hi
    obtain ⟨a,rfl,ha⟩:=reg_nat h1
    exact told hh hx h20 (by omega) (exec_const hh) (step_const (b:=0) (c:=0) (A:=0) X hN t ht hh hx (by omega) hB)
   ·obtain ⟨h1,h2⟩:=hi
    obtain ⟨a,rfl,ha⟩:=reg_nat h1
    obtain ⟨b,rfl,hb⟩:=reg_nat h2
    exact told hh hx h20 (by omega) (exec_move hh) (step_move (c:=0) (A:=0) (B:=0) X hN t ht hh hx (by omega) (by omega))
   ·obtain ⟨h1,h2,h3⟩:=hi
    obtain ⟨a,rfl,ha⟩:=reg_nat h1
    obtain ⟨b,rfl,hb⟩:=reg_nat h2
    obtain ⟨c,rfl,hc⟩:=reg_nat h3
    exact told hh hx h20 (by omega) (exec_add hh) (step_add (A:=0) (B:=0) (C:=0) X hN t ht hh hx (by omega) (by omega) (by omega))
   ·obtain ⟨h1,h2,h3⟩:=hi
    obtain ⟨a,rfl,ha⟩:=reg_nat h1
    obtain ⟨b,rfl,hb⟩:=reg_nat h2
    obtain ⟨c,rfl,hc⟩:=reg_nat h3
    exact told hh hx h20 (by omega) (exec_sub hh) (step_sub (A:=0) (B:=0) (C:=0) X hN t ht hh hx (by omega) (by omega) (by omega))
   ·obtain ⟨h1,h2,h3⟩:=hi
    obtain ⟨a,rfl,ha⟩:=reg_nat h1
    obtain ⟨b,rfl,hb⟩:=reg_nat h2
    obtain ⟨c,rfl,hc⟩:=reg_nat h3
    exact told hh hx h20 (by omega) (exec_and hh) (step_and (A:=0) (B:=0) (C:=0) X hN t ht hh hx (by omega) (by omega) (by omega))
   ·obtain ⟨h1,h2,h3⟩:=hi
    obtain ⟨a,rfl,ha⟩:=reg_nat h1
    obtain ⟨b,rfl,hb⟩:=reg_nat h2
    obtain ⟨c,rfl,hc⟩:=reg_nat h3
    exact told hh hx h20 (by omega) (exec_xor hh) (step_xor (A:=0) (B:=0) (C:=0) X hN t ht hh hx (by omega) (by omega) (by omega))
   ·obtain ⟨h1,h2,h3⟩:=hi
    obtain ⟨a,rfl,ha⟩:=reg_nat h1
    obtain ⟨b,rfl,hb⟩:=reg_nat h2
    cases hn:m.names (h.regs.getD b 0)with
    |none=>exact told hh hx h20 (by omega) (exec_load_none hh hn) (step_load_none (c:=0) (A:=0) (B:=0) X hN t ht hh hx (by omega) (by omega) hn)
    |some r=>exact told hh hx h20 (by omega) (exec_load_ok hh (rc:=r.1) (rg:=r.2) hn) (step_load_ok (c:=0) (A:=0) (B:=0) X hN t ht hh hx (by omega) (by omega) h3 hn)
   ·obtain ⟨h1,h2,h3⟩:=hi
    obtain ⟨a,rfl,ha⟩:=reg_nat h1
    obtain ⟨b,rfl,hb⟩:=reg_nat h2
    cases hn:m.names (h.regs.getD a 0)with
    |none=>exact told hh hx h20 (by omega) (exec_store_none hh hn) (step_store_none (c:=0) (A:=0) (B:=0) X hN t ht hh hx (by omega) (by omega) hn)
    |some r=>
     obtain ⟨l,hl⟩:∃l,m.waits[t]?=some l:=⟨_,List.getElem?_eq_getElem (by rw[X.ot.len];exact ht)⟩
     have h8:=X.om.wlen t l hl
     by_cases h9:l.length<8
     ·exact told hh hx h20 (by omega) (exec_store_ok hh (rc:=r.1) (rg:=r.2) hn hl h9) (step_store_ok (c:=0) (A:=0) (B:=0) X hN t ht hh hx (by omega) (by omega) h3 hn hl h9)
     ·obtain ⟨y,q,rfl⟩:∃y q,l=y :: q:=by
       cases l with
       |nil=>simp at h9
       |cons y q=>exact ⟨y,q,rfl⟩
      have h7:q.length=7:=by simp at h8 h9;omega
      cases hin:hereIn m.cells y.c y.g with
      |true=>exact told hh hx h20 (by omega) (exec_store_full hh (rc:=r.1) (rg:=r.2) hn hl h7 hin) (step_store_full_ok (c:=0) (A:=0) (B:=0) X hN t ht hh hx (by omega) (by omega) h3 hn hl h7 hin)
      |false=>exact told hh hx h20 (by omega) (exec_store_full_bad hh (rc:=r.1) (rg:=r.2) hn hl h7 hin) (step_store_full_bad (c:=0) (A:=0) (B:=0) X hN t ht hh hx (by omega) (by omega) h3 hn hl h7 hin)
   ·obtain ⟨h1,h2,h3⟩:=hi
    obtain ⟨a,rfl,ha⟩:=reg_nat h1
    obtain ⟨b,rfl,hb⟩:=reg_nat h2
    obtain ⟨c,rfl,hc⟩:=reg_nat h3
    cases hn:m.names (h.regs.getD b 0)with
    |none=>exact told hh hx h20 (by omega) (exec_swap_none hh hn) (step_swap_none (c:=0) (A:=0) (B:=0) X hN t ht hh hx (by omega) (by omega) hn)
    |some r=>
     obtain ⟨rc,rg⟩:=r
     obtain ⟨k,rfl,hk⟩:=names_nat hn
     exact told hh hx h20 (by omega) (exec_swap_ok hh hn) (step_swap_ok (A:=0) (B:=0) (C:=0) X hN t ht hh hx (by omega) (by omega) (by omega) hk hn)
   ·obtain ⟨h1,h2,h3⟩:=hi
    obtain ⟨a,rfl,ha⟩:=reg_nat h1
    obtain ⟨b,rfl,hb⟩:=reg_nat h2
    obtain ⟨c,rfl,hc⟩:=reg_nat h3
    cases hn:m.names (h.regs.getD a 0)with
    |none=>exact told hh hx h20 (by omega) (exec_cas_none hh hn) (step_cas_none (c:=0) (A:=0) (B:=0) X hN t ht hh hx (by omega) (by omega) hn)
    |some r=>
     obtain ⟨rc,rg⟩:=r
     obtain ⟨k,rfl,hk⟩:=names_nat hn
     exact told hh hx h20 (by omega) (exec_cas_ok hh hn) (step_cas_ok (A:=0) (B:=0) (C:=0) X hN t ht hh hx (by omega) (by omega) (by omega) (by omega) hk hn)
   ·obtain ⟨a,rfl,ha⟩:=reg_nat hi
    cases hal:allocAt m.cells 0 with
    |none=>exact told hh hx h20 (by omega) (exec_alloc_none hal) (step_alloc_none (b:=0) (c:=0) (A:=0) X hN t ht hh hx (by omega) hal)
    |some r=>exact told hh hx h20 (by omega) (exec_alloc_ok (i:=r.1) (n:=r.2) hal) (step_alloc_ok (b:=0) (c:=0) (A:=0) X hN t ht hh hx (by omega) hal)
   ·obtain ⟨a,rfl,ha⟩:=reg_nat hi
    cases hn:m.names (h.regs.getD a 0)with
    |none=>exact told hh hx h20 (by omega) (exec_free_none hh hn) (step_free_none (b:=0) (c:=0) (A:=0) X hN t ht hh hx (by omega) hn)
    |some r=>
     obtain ⟨rc,rg⟩:=r
     obtain ⟨k,rfl,hk⟩:=names_nat hn
     exact told hh hx h20 (by omega) (exec_free_ok hh hn) (step_free_ok (b:=0) (c:=0) (A:=0) X hN t ht hh hx (by omega) hk hn)
   ·exact told hh hx h20 (by omega) exec_fence (step_fence (a:=0) (b:=0) (c:=0) X hN t ht hh hx)
   ·exact told hh hx h20 (by omega) exec_force (step_force (a:=0) (b:=0) (c:=0) X hN t ht hh hx)
   ·obtain ⟨a,rfl,ha⟩:=reg_nat hi
    obtain ⟨i,hi⟩:=Option.isSome_iff_exists.1 (hlab (.inl rfl))
    by_cases hz:h.regs.getD a 0=0
    ·exact told hh hx h20 (by omega) (exec_zero_yes hh hi hz) (step_zero_yes (b:=0) (c:=0) (A:=0) X hN t ht hh hx (by omega) hi hz)
    ·exact told hh hx h20 (by omega) (exec_zero_no hh hz) (step_zero_no (b:=0) (c:=0) (A:=0) X hN t ht hh hx (by omega) hz)
   ·obtain ⟨h1,h2⟩:=hi
    obtain ⟨a,rfl,ha⟩:=reg_nat h1
    obtain ⟨b,rfl,hb⟩:=reg_nat h2
    obtain ⟨i,hi⟩:=Option.isSome_iff_exists.1 (hlab (.inr (.inl rfl)))
    by_cases hz:h.regs.getD a 0=h.regs.getD b 0
    ·exact told hh hx h20 (by omega) (exec_same_yes hh hi hz) (step_same_yes (c:=0) (A:=0) (B:=0) X hN t ht hh hx (by omega) (by omega) hi hz)
    ·exact told hh hx h20 (by omega) (exec_same_no hh hz) (step_same_no (c:=0) (A:=0) (B:=0) X hN t ht hh hx (by omega) (by omega) hz)
   ·obtain ⟨i,hi⟩:=Option.isSome_iff_exists.1 (hlab (.inr (.inr rfl)))
    exact told hh hx h20 (by omega) (exec_goto hh hi) (step_goto (a:=0) (b:=0) (c:=0) X hN t ht hh hx hi)
   ·exact told hh hx h20 (by omega) exec_label (step_label (a:=0) (b:=0) (c:=0) X hN t ht hh hx)
   ·obtain ⟨a,rfl,ha⟩:=reg_nat hi
    by_cases h5:m.marks.length<500
    ·exact told hh hx h20 (by omega) (exec_mark_ok hh h5) (step_mark (b:=0) (c:=0) (A:=0) X hN t ht hh hx (by omega) h5)
    ·exact told hh hx h20 (by omega) (exec_mark_full h5) (step_mark_full (b:=0) (c:=0) (A:=0) X hN t ht hh hx (by omega) h5)
   ·obtain ⟨a,rfl,ha⟩:=reg_nat hi
    exact told hh hx h20 (by omega) (exec_need hh) (step_need (b:=0) (c:=0) (A:=0) X hN t ht hh hx (by omega))
   ·have h21:¬op=20:=h20
    have:op≤20:=insOk_le hi
    omega
end
section
open Go.RowKit Qs Qh
variable {w:World}{L:Lay}{m:M}{N:Int}
theorem tmod_fix(n k:Int)(hk:0<k):(if n.tmod k<0 then n.tmod k+k else n.tmod k)=n % k:=by
 have h1:=Int.emod_nonneg n (show k≠0 by omega)
 have h2:=Int.emod_lt_of_pos n hk
 by_cases h0:0≤n
 ·rw[Int.tmod_eq_emod_of_nonneg h0,if_neg (by omega)]
 ·have e:n.tmod k=if k∣n then 0 else n % k - k:=by
   rw[Int.tmod_eq_emod]
   by_cases hd:k∣n
   ·have:n % k=0:=Int.emod_eq_zero_of_dvd hd
    simp[hd,this]
   ·simp[hd,h0];omega
  by_cases hd:k∣n
  ·have h3:n % k=0:=Int.emod_eq_zero_of_dvd hd
   rw[e,if_pos hd,if_neg (by omega),h3]
  ·rw[e,if_neg hd,if_pos (by omega)];omega
theorem turn_at(m:M)(n:Int){q:Nat}(hq:n % (2*(m.T.length:Int))=q):m.turn n=if q<m.T.length then m.step q else m.drain (q - m.T.length):=by
 unfold M.turn
 simp only[hq,Int.toNat_natCast]
theorem turn_any(X:Mach ty w L m N)(hE:Easy m)(hN:N≤1000000000)(n:Int)(hlo : -9223372036854775808≤n)(hhi:n≤9223372036854775807) :
  Calls Tryz.prog 54 #[.pointer (some ⟨L.blk 0 0,0,none⟩),.int .i64 n] w fun e w'=>e=.returned (.int .i64 (m.turn n).2)∧∃L',MUp ty w L m w' L' (m.turn n).1 (N+48):=by
 obtain ⟨t0,t1,t2,t3,t4,t5⟩:=X.top
 have ht6:m.T.length≤6:=by have:=X.om.waits;have:=X.ot.len;omega
 have ht1:=X.ot.t1
 have hk:(0:Int)<2*(m.T.length:Int):=by omega
 have hk0:(2*(m.T.length:Int)==0)=false:=by rw[beq_eq_false_iff_ne];omega
 have hfix:=tmod_fix n (2*(m.T.length:Int)) hk
 have h1:=Int.emod_nonneg n (show (2*(m.T.length:Int))≠0 by omega)
 have h2:=Int.emod_lt_of_pos n hk
 clear t4
 obtain ⟨q,hq⟩:=Int.eq_ofNat_of_zero_le h1
 have hta:=turn_at m n hq
 rw[hq]at hfix h2
 have HX:=Lib.hid X
 have HE:=Lib.hid hE
 have Hta:=Lib.hid hta
 clear X hE hq hta h1
 obtain ⟨r,hr⟩:∃r,n.tmod (2*(m.T.length:Int))=r:=⟨_,rfl⟩
 rw[hr]at hfix
 by_cases hneg:r<0
 ·rw[if_pos hneg]at hfix
  by_cases hqt:q<m.T.length
  ·have hd:decide ((q:Int)<(m.T.length:Int))=true:=by simp;omega
   go_enter Tryz.func54,Tryz.ntmps54
   go_wp2_with fail
   refine (step_any HX.out HE.out (by omega) q hqt).mono ?_
   rintro e w5 ⟨rfl,h5⟩
   have H5:=Lib.hid h5
   clear h5
   go_wp2
   go_ret
   rw[Hta.out,if_pos hqt]
   exact ⟨rfl,H5.out⟩
  ·obtain ⟨p,rfl⟩:∃p,q=m.T.length+p:=⟨q - m.T.length,by omega⟩
   have hp2:p<m.T.length:=by omega
   have hp3:m.T.length+p - m.T.length=p:=by omega
   rw[hp3]at Hta
   rw[Int.natCast_add]at h2 hfix
   have hd:decide ((m.T.length:Int)+(p:Int)<(m.T.length:Int))=false:=by simp;omega
   have hsub:(m.T.length:Int)+(p:Int) - (m.T.length:Int)=p:=by omega
   clear hp3
   go_enter Tryz.func54,Tryz.ntmps54
   go_wp2_with fail
   refine (mdrain_any HX.out (by omega) p hp2).mono ?_
   rintro e w5 ⟨rfl,L5,h5⟩
   have H5:=Lib.hid h5
   clear h5
   go_wp2
   go_ret
   rw[Hta.out,if_neg hqt]
   exact ⟨rfl,L5,H5.out.mono (by omega)⟩
 ·rw[if_neg hneg]at hfix
  subst hfix
  clear hneg
  by_cases hqt:q<m.T.length
  ·have hd:decide ((q:Int)<(m.T.length:Int))=true:=by simp;omega
   go_enter Tryz.func54,Tryz.ntmps54
   go_wp2_with fail
   refine (step_any HX.out HE.out (by omega) q hqt).mono ?_
   rintro e w5 ⟨rfl,h5⟩
   have H5:=Lib.hid h5
   clear h5
   go_wp2
   go_ret
   rw[Hta.out,if_pos hqt]
   exact ⟨rfl,H5.out⟩
  ·obtain ⟨p,rfl⟩:∃p,q=m.T.length+p:=⟨q - m.T.length,by omega⟩
   have hp2:p<m.T.length:=by omega
   have hp3:m.T.length+p - m.T.length=p:=by omega
   rw[hp3]at Hta
   rw[Int.natCast_add]at h2 hr
   have hd:decide ((m.T.length:Int)+(p:Int)<(m.T.length:Int))=false:=by simp;omega
   have hsub:(m.T.length:Int)+(p:Int) - (m.T.length:Int)=p:=by omega
   clear hp3
   go_enter Tryz.func54,Tryz.ntmps54
   go_wp2_with fail
   refine (mdrain_any HX.out (by omega) p hp2).mono ?_
   rintro e w5 ⟨rfl,L5,h5⟩
   have H5:=Lib.hid h5
   clear h5
   go_wp2
   go_ret
   rw[Hta.out,if_neg hqt]
   exact ⟨rfl,L5,H5.out.mono (by omega)⟩
end
section
open Go.RowKit Qs Qh
variable {w:World}{L:Lay}{m:M}{N:Int}
theorem Easy.keep{w':World}{L':Lay}{m':M}{N':Int}(h:Easy m)(U:MUp ty w L m w' L' m' N'):Easy m':=by
 intro t x' hx' i hi
 obtain ⟨x,hx,e⟩:=U.thr t x' hx'
 rw[e]at hi
 exact h t x hx i hi
theorem frame1{w w':World}{F:Nat→Prop}{v:Value}{l:List Int}(h:IntsAt w v l)(hM:Mod F w w')(hF:l≠[]→∀b,v.ownBlock=some b→¬F b):IntsAt w' v l:=by
 by_cases e:l=[]
 ·subst e
  obtain ⟨a,c,rfl,hc,hx⟩:=h.at_
  exact ⟨a,c,rfl,hc,fun i x hi=>by simp at hi⟩
 ·exact h.frame hM (hF e)
def runRel(w:World)(L:Lay)(m:M)(N:Int)(l:List Int)(k:Nat)(d i:Value)(wr:World):Prop:=
 i=.int .i64 k∧d=.int .i64 (m.run (l.take k)).2∧∃L',MUp ty w L m wr L' (m.run (l.take k)).1 (N+48*k)
theorem run_any(X:Mach ty w L m N)(hE:Easy m)(hN:N≤1000000)(v:Value)(l:List Int)(hl:IntsAt w v l)(hlen:l.length≤20000)(hw:∀x∈l,-9223372036854775808≤x∧x≤9223372036854775807)(hv:l≠[]→∀b,v.ownBlock=some b→¬Foot ty allK L m b) :
  Calls Tryz.prog 16 #[.pointer (some ⟨L.blk 0 0,0,none⟩),v] w fun e w'=>e=.returned (.int .i64 (m.run l).2)∧∃L',MUp ty w L m w' L' (m.run l).1 (N+48*l.length):=by
 obtain ⟨a,c,rfl,hcm,hcell⟩:=hl.at_
 have HX:=Lib.hid X
 have HE:=Lib.hid hE
 have Hl:=Lib.hid hl
 have Hw:=Lib.hid hw
 have Hv:=Lib.hid hv
 clear X hE hl hw hv hcell hcm
 go_enter Tryz.func16,Tryz.ntmps16
 go_wp2
 go_loopw [5,6,7] (fun d i _ wr=>∃k:Nat,k≤l.length∧runRel w L m N l k d i wr) (fun _ i _ _=>l.length - (intOf i).toNat)
 case atStart=>exact ⟨0,Nat.zero_le _,rfl,rfl,L,by simpa[M.run]using MUp.quiet HX.out (Mod.refl _ _)⟩
 case round=>
  rename_i wr
  obtain ⟨k,hk,rfl,rfl,Lr,Ur⟩:=hrel
  have hd0:=M.run_two m (l.take k)
  have hlk:(l.take k).length≤k:=List.length_take_le _ _
  generalize hmr:m.run (l.take k)=mr at *
  obtain ⟨m1,d1⟩:=mr
  simp only at hd0 Ur
  have Hmr:=Lib.hid hmr
  have HUr:=Lib.hid Ur
  obtain ⟨hd0,hd1⟩:=hd0
  have hd2:d1≤20000:=by omega
  clear hmr Ur hlk
  by_cases hlt:k<l.length
  ·have hd:decide ((k:Int)<(l.length:Int))=true:=by simp;omega
   have hdd:decide ((k:Int)<20000)=true:=by simp;omega
   have hdd:((k:Int)<20000):=by omega
   obtain ⟨x,hx⟩:∃x,l[k]?=some x:=⟨_,List.getElem?_eq_getElem hlt⟩
   have hwx:=Hw.out x (List.mem_of_getElem? hx)
   obtain ⟨hw0,hw1⟩:=hwx
   have hI:=frame1 Hl.out HUr.out.mod Hv.out
   obtain ⟨a',c',e',_,hcell⟩:=hI.at_
   cases e'
   obtain ⟨b,off,rfl,hb,hc⟩:=hcell k x hx
   have hE1:=HE.out.keep HUr.out
   have e0:=HUr.out.top.1
   have hcall:=turn_any HUr.out.mach hE1 (by omega) x hw0 hw1
   rw[e0]at hcall
   have htk:l.take (k+1)=l.take k++[x]:=by rw[List.take_succ_eq_append_getElem hlt];rw[List.getElem?_eq_getElem hlt]at hx;cases hx;rfl
   have hsn:=M.run_snoc m (l.take k) x
   rw[←htk,Hmr.out]at hsn
   have Hsn:=Lib.hid hsn
   have Hcall:=Lib.hid hcall
   have Hx:=Lib.hid hx
   clear hx hI hcell hE1 e0 hcall htk hsn
   go_wp2_with fail
   refine Hcall.out.mono ?_
   rintro e w5 ⟨rfl,L5,U5⟩
   have HU5:=Lib.hid U5
   clear U5
   by_cases hz:(m1.turn x).2=0
   ·rw[hz]
    have Hz:=Lib.hid hz
    clear hz
    go_wp2
    go_roundw
    case rel=>
     refine ⟨k+1,by omega,by go_num,?_,L5,?_⟩
     ·rw[Hsn.out,if_pos Hz.out]
     ·rw[Hsn.out]
      have:=(HUr.out.trans HU5.out)
      rw[show N+48*((k+1:Nat):Int)=N+48*(k:Int)+48 from by omega]
      exact this
    case measure=>simp[intOf];omega
   ·generalize htn:(m1.turn x).2=z at *
    have hzb:(z==0)=false:=by simpa using hz
    have Hz:=Lib.hid hz
    have Htn:=Lib.hid htn
    clear hz htn
    go_wp2
    go_roundw
    case rel=>
     refine ⟨k+1,by omega,by go_num,?_,L5,?_⟩
     ·rw[Hsn.out]
      simp only
      rw[if_neg Hz.out];simp
     ·rw[Hsn.out]
      have:=(HUr.out.trans HU5.out)
      rw[show N+48*((k+1:Nat):Int)=N+48*(k:Int)+48 from by omega]
      exact this
    case measure=>simp[intOf];omega
  ·have hd:decide ((k:Int)<(l.length:Int))=false:=by simp;omega
   obtain rfl:k=l.length:=by omega
   have htk:l.take l.length=l:=List.take_length
   rw[htk]at Hmr
   clear htk
   go_wp2
   go_ret
   rw[Hmr.out]
   exact ⟨rfl,Lr,HUr.out⟩
end
end Go.Proofs.YtppihkneeolomaaGreatDoor
section
namespace Qh
open Go Go.RowKit Qs
variable {w w':World}{v:Value}
theorem RowsAt.keepM{ll:List (List Int)}(h:RowsAt w v ll)(hM:Mod noF w w'):RowsAt w' v ll:=by
 obtain ⟨a,c,e,hx⟩:=h
 refine ⟨a,c,e,fun i l hi=>?_⟩
 obtain ⟨b,off,u,e1,hb,hc,hi2,ho⟩:=hx i l hi
 exact ⟨b,off,u,e1,Nat.lt_of_lt_of_le hb hM.size,hM.cell hc (fun e=>e),hi2.frame0 hM,fun g hg=>Nat.lt_of_lt_of_le (ho g hg) hM.size⟩
theorem CodesAt.keepM{cs:List (List Instr)}{cv:Nat→Value}(h:CodesAt w v cs cv)(hM:Mod noF w w'):CodesAt w' v cs cv:=by
 obtain ⟨a,c,e,hx⟩:=h
 refine ⟨a,c,e,fun i l hi=>?_⟩
 obtain ⟨b,off,e1,hb,hc,hi2,ho⟩:=hx i l hi
 exact ⟨b,off,e1,Nat.lt_of_lt_of_le hb hM.size,hM.cell hc (fun e=>e),hi2.frame hM (fun _ _ e=>e),fun g hg=>Nat.lt_of_lt_of_le (ho g hg) hM.size⟩
theorem Mach.head{τ : Ty}{L:Lay}{m:M}{N:Int}(X:Mach τ w L m N):w.heap[L.blk 0 0]?=some (.cells #[.pointer (some ⟨L.blk 1 0,0,none⟩),L.row 4 0 m.T.length,L.row 5 0 m.marks.length,.int .i64 m.faults] τ.mach (0,0)):=
 X.rep.at_ 0 0 _ _ rfl rfl
theorem Mach.told{τ : Ty}{L:Lay}{m:M}{N:Int}(X:Mach τ w L m N):∃a c,L.row 5 0 m.marks.length=.slice a m.marks.length c∧∀(i:Nat) x,m.marks[i]?=some x→∃b,a=some ⟨b,0,none⟩∧b<w.heap.size∧w.cell? ⟨b,i*2,none⟩=some (.int .i64 x.1)∧w.cell? ⟨b,i*2+1,none⟩=some (.int .i64 x.2):=by
 cases hn:L.nil 5 0 with
 |true=>
  have h0:=X.olt.n5 hn
  refine ⟨none,0,by simp[Lay.row,hn,h0],fun i x hi=>by rw[h0]at hi;simp at hi⟩
 |false=>
  have hh:=X.rep.at_ 5 0 _ _ rfl (obj5 τ m hn)
  refine ⟨_,_,row_some hn,fun i x hi=>⟨_,rfl,lt_of_block hh,?_,?_⟩⟩
  ·rw[cell_of_heap hh]
   have:=flat_get markVals 2 (fun _ _=>rfl) (show 0<2 by omega) m.marks 0 i x hi (L.junk 5 0)
   simpa[markVals,iv]using this
  ·rw[cell_of_heap hh]
   have:=flat_get markVals 2 (fun _ _=>rfl) (show 1<2 by omega) m.marks 0 i x hi (L.junk 5 0)
   simpa[markVals,iv]using this
end Qh
namespace Go.Proofs.YtppihkneeolomaaGreatDoor
open Go.RowKit Qs Qh
theorem easy_any(m:M):Easy m:=fun t h ht x hx=>rfl
end Go.Proofs.YtppihkneeolomaaGreatDoor
end
namespace Go.Proofs.YtppihkneeolomaaGreatDoor
section
open Go.RowKit Qs Qh Qo
theorem noFault4(c:Int)(w:World):(Go.Instr.field 27 (.agg #[.int .i64 0,.int .i64 c]) 0).run Tryz.prog w=.ok (.int .i64 0) w:=by kernel_rfl
end
end Go.Proofs.YtppihkneeolomaaGreatDoor
