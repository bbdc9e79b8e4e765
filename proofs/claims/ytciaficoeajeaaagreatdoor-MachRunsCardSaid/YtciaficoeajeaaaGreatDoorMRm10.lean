/- Texts that belong together, joined. -/
import Derived.Test.YtciaficoeajeaaaGreatDoorMRm8
import Derived.Test.YtciaficoeajeaaaGreatDoorMRPmT1
import Derived.Test.YtciaficoeajeaaaGreatDoorMRPmT2
import Derived.Test.YtciaficoeajeaaaGreatDoorMRPmT3
import Derived.Test.YtciaficoeajeaaaGreatDoorMRPmT4
import Derived.Test.YtciaficoeajeaaaGreatDoorMRPmT5
import Derived.Test.YtciaficoeajeaaaGreatDoorMRPmT6
import Derived.Test.YtciaficoeajeaaaGreatDoorMRm9
import Derived.Test.YtciaficoeajeaaaGreatDoorMRPmS2
import Derived.Test.YtciaficoeajeaaaGreatDoorMRPmS3
import Derived.Test.YtciaficoeajeaaaGreatDoorMRPmS6
import Derived.Test.YtciaficoeajeaaaGreatDoorMRm5
import Derived.Test.YtciaficoeajeaaaGreatDoorMRm7
import Derived.Test.YtciaficoeajeaaaGreatDoorMRm6
import Derived.Test.YtciaficoeajeaaaGreatDoorMRNewWalk2
import Derived.Test.YtciaficoeajeaaaGreatDoorMRMAs
import Derived.Deep.QuietTactic
import Derived.BigQuiet
import Derived.Outline
import Derived.Test.YtciaficoeajeaaaGreatDoorMRm2
import Derived.Test.YtciaficoeajeaaaGreatDoorMRm4
import Derived.Test.YtciaficoeajeaaaGreatDoorMRm3
set_option linter.unusedVariables false
set_option linter.unusedSimpArgs false
set_option linter.unusedSectionVars false
set_option maxHeartbeats 16000000
set_option maxRecDepth 100000
namespace Go.Proofs.YtciaficoeajeaaaGreatDoor
section
open Go.RowKit Qs Qh
variable {w w1 w2 w' b0:World}{X:XB}{vs vs':List Value}{mv mv':Value}{m m':M}{N:Int}{a:Nat→Addr}
theorem okT_setPc(ot:OkT N m){t:Nat}{h:Thr}(hh:m.T[t]?=some h){p:Nat}(hp:p≤h.code.length):OkT N (m.setPc t p):=by
 have e:m.setPc t p = {m with T:=m.T.set t {h with pc:=p}}:=by unfold M.setPc;rw[modify_get _ hh]
 rw[e]
 have hT:∀(u:Nat) k,(m.T.set t {h with pc:=p})[u]?=some k→k = {h with pc:=p}∨m.T[u]?=some k:=fun u k hk=>by
  rw[List.getElem?_set]at hk
  split at hk
  ·split at hk
   ·cases hk;exact .inl rfl
   ·cases hk
  ·exact .inr hk
 refine ⟨by simpa using ot.len,by simpa using ot.t1,fun u k hk=>?_,fun u k hk=>?_,ot.marks,ot.f0⟩
 ·rcases hT u k hk with rfl|hk
  ·exact ot.regs t h hh
  ·exact ot.regs u k hk
 ·rcases hT u k hk with rfl|hk
  ·exact ⟨hp,(ot.code t h hh).2⟩
  ·exact ot.code u k hk
theorem okM_setPc(om:OkM N m)(t p:Nat):OkM N (m.setPc t p):=⟨om.cells1,om.cells,om.words,om.times,om.waits,om.wlen,om.wval,om.N0⟩
def PStTold(w:World)(X:XB)(vs:List Value)(mv:Value)(m:M)(a:Nat→Addr)(t:Nat):Prop:=
 Calls Tryz.prog 14 #[.pointer (some ⟨X.bX,0,none⟩),.int .i64 t] w fun e w'=>e=.returned (errOf' a (m.step t).2)∧∃vs' mv',XUp w X vs mv m w' (m.step t).1 vs' mv'
theorem ptold{t:Nat}{h:Thr}{x:Instr}(hh:m.T[t]?=some h)(hx:h.code[h.pc]?=some x)(h20:x.op≠20){m':M}(he:(m.setPc t (h.pc+1)).exec t x=m')
  (hc:Calls Tryz.prog 14 #[.pointer (some ⟨X.bX,0,none⟩),.int .i64 t] w fun e w'=>e=.returned .nilIface∧∃vs' mv',XUp w X vs mv m w' m' vs' mv'):PStTold w X vs mv m a t:=by
 unfold PStTold;rw[step_eq hh hx h20,he];exact hc
theorem pst_any(H:PX w X vs mv m N)(hN:N≤900000000)(L:XLow b0 w a X vs mv)(hLab:LabsOk m){t:Nat}(ht:t<m.T.length) :
  Calls Tryz.prog 14 #[.pointer (some ⟨X.bX,0,none⟩),.int .i64 t] w fun e w'=>e=.returned (errOf' a (m.step t).2)∧∃vs' mv',XUp w X vs mv m w' (m.step t).1 vs' mv':=by
 show PStTold w X vs mv m a t;obtain ⟨h,hh⟩:∃h,m.T[t]?=some h:=⟨_,List.getElem?_eq_getElem ht⟩
 cases hx:h.code[h.pc]? with
 |none=>
  have hs:=Qh.step_end hh hx
  have hd:m.done t=true:=by unfold M.done;rw[thr_of hh,hx]
  unfold PStTold;rw[hs];refine (pst_done H L ht hd).mono ?_;rintro e w' ⟨rfl,hm⟩;exact ⟨rfl,vs,mv,XUp.quiet H.p hm⟩
 |some x=>
  by_cases h20:x.op=20
  ·have hs:=step_stop hh hx h20
   have hd:m.done t=true:=by unfold M.done;rw[thr_of hh,hx];simp[h20]
   unfold PStTold;rw[hs];refine (pst_done H L ht hd).mono ?_;rintro e w' ⟨rfl,hm⟩;exact ⟨rfl,vs,mv,XUp.quiet H.p hm⟩
  ·have hmem:x∈h.code:=List.mem_of_getElem? hx;have hto:=hLab t h hh x hmem;have hco:=(H.ot.code t h hh).2;have hi:=hco.ins x hmem;have hlab:=hco.lab x hmem;have hlt:h.pc<h.code.length:=(List.getElem?_eq_some_iff.1 hx).1;have h8:=(H.ot.regs t h hh).1
   have hP:∀W,XUp w X vs mv m W (m.setPc t (h.pc+1)) vs mv→PX W X vs mv (m.setPc t (h.pc+1)) N:=fun W U=>⟨U.rep,okM_setPc H.om _ _,okT_setPc H.ot hh (by omega)⟩;have hh1:(m.setPc t (h.pc+1)).T[t]?=some {h with pc:=h.pc+1}:=setPc_T hh _
   have ht1:t<(m.setPc t (h.pc+1)).T.length:=(List.getElem?_eq_some_iff.1 hh1).1
   have hN1:N≤1000000000:=by omega
   obtain ⟨op,A,B,C,to⟩:=x
   rcases op_cases op with rfl|rfl|rfl|rfl|rfl|rfl|rfl|rfl|rfl|rfl|rfl|rfl|rfl|rfl|rfl|rfl|rfl|rfl|rfl|rfl|hbig
   ·obtain ⟨h1,hB⟩:=hi;obtain ⟨ra,rfl,ha⟩:=reg_nat h1;exact ptold hh hx h20 (exec_const hh) (pst_const H hN L ht hh (by omega) hx)
   ·obtain ⟨h1,h2⟩:=hi;obtain ⟨ra,rfl,ha⟩:=reg_nat h1;obtain ⟨rb,rfl,hb⟩:=reg_nat h2;exact ptold hh hx h20 (exec_move hh) (pst_move H hN L ht hh (by omega) (by omega) hx)
   ·obtain ⟨h1,h2,h3⟩:=hi;obtain ⟨ra,rfl,ha⟩:=reg_nat h1;obtain ⟨rb,rfl,hb⟩:=reg_nat h2;obtain ⟨rc,rfl,hc⟩:=reg_nat h3;exact ptold hh hx h20 (exec_add hh) (pst_add H hN L ht hh (by omega) (by omega) (by omega) hx)
   ·obtain ⟨h1,h2,h3⟩:=hi;obtain ⟨ra,rfl,ha⟩:=reg_nat h1;obtain ⟨rb,rfl,hb⟩:=reg_nat h2;obtain ⟨rc,rfl,hc⟩:=reg_nat h3;exact ptold hh hx h20 (exec_sub hh) (pst_sub H hN L ht hh (by omega) (by omega) (by omega) hx)
   ·obtain ⟨h1,h2,h3⟩:=hi;obtain ⟨ra,rfl,ha⟩:=reg_nat h1;obtain ⟨rb,rfl,hb⟩:=reg_nat h2;obtain ⟨rc,rfl,hc⟩:=reg_nat h3;exact ptold hh hx h20 (exec_and hh) (pst_and H hN L ht hh (by omega) (by omega) (by omega) hx)
   ·obtain ⟨h1,h2,h3⟩:=hi;obtain ⟨ra,rfl,ha⟩:=reg_nat h1;obtain ⟨rb,rfl,hb⟩:=reg_nat h2;obtain ⟨rc,rfl,hc⟩:=reg_nat h3;exact ptold hh hx h20 (exec_xor hh) (pst_xor H hN L ht hh (by omega) (by omega) (by omega) hx)
   ·obtain ⟨h1,h2,h3⟩:=hi;obtain ⟨ra,rfl,ha⟩:=reg_nat h1;obtain ⟨rb,rfl,hb⟩:=reg_nat h2;obtain ⟨rc,rfl,hc⟩:=reg_nat h3
    cases hn:m.names (h.regs.getD rb 0)with
    |none=>exact ptold hh hx h20 (by rw[exec_load_none hh hn]) (pst_touch H hN L ht hh h20 rfl rfl rfl rfl rfl rfl rfl rfl rfl rfl rfl (fun W U=>ptouch_load_none (hP W U) hN1 (L.up U) ht1 hh1 h8 (by omega) (by omega) (by omega) hn) hx)
    |some r=>exact ptold hh hx h20 (by rw[exec_load_ok hh (rc:=r.1) (rg:=r.2) hn];rfl) (pst_touch H hN L ht hh h20 rfl rfl rfl rfl rfl rfl rfl rfl rfl rfl rfl (fun W U=>ptouch_load_ok (hP W U) hN1 (L.up U) ht1 hh1 h8 (by omega) (by omega) (by omega) (c:=r.1) (g:=r.2) hn) hx)
   ·obtain ⟨h1,h2,h3⟩:=hi;obtain ⟨ra,rfl,ha⟩:=reg_nat h1;obtain ⟨rb,rfl,hb⟩:=reg_nat h2;obtain ⟨rc,rfl,hc⟩:=reg_nat h3
    cases hn:m.names (h.regs.getD ra 0)with
    |none=>exact ptold hh hx h20 (by rw[exec_store_none hh hn]) (pst_touch H hN L ht hh h20 rfl rfl rfl rfl rfl rfl rfl rfl rfl rfl rfl (fun W U=>ptouch_store_none (hP W U) hN1 (L.up U) ht1 hh1 h8 (by omega) (by omega) (by omega) hn) hx)
    |some r=>
     obtain ⟨l,hl⟩:∃l,m.waits[t]?=some l:=⟨_,List.getElem?_eq_getElem (by rw[H.ot.len];exact ht)⟩;have h88:=H.om.wlen t l hl
     by_cases h9:l.length<8
     ·exact ptold hh hx h20 (by rw[exec_store_ok hh (rc:=r.1) (rg:=r.2) hn hl h9]) (pst_touch H hN L ht hh h20 rfl rfl rfl rfl rfl rfl rfl rfl rfl rfl rfl (fun W U=>ptouch_store_ok (hP W U) hN1 (L.up U) ht1 hh1 h8 (by omega) (by omega) (by omega) (c:=r.1) (g:=r.2) hn hl h9) hx)
     ·obtain ⟨y,q,rfl⟩:∃y q,l=y :: q:=by
       cases l with
       |nil=>simp at h9
       |cons y q=>exact ⟨y,q,rfl⟩
      have h7:q.length=7:=by simp at h88 h9;omega
      cases hin:hereIn m.cells y.c y.g with
      |true=>exact ptold hh hx h20 (by rw[exec_store_full hh (rc:=r.1) (rg:=r.2) hn hl h7 hin];rfl) (pst_touch H hN L ht hh h20 rfl rfl rfl rfl rfl rfl rfl rfl rfl rfl rfl (fun W U=>ptouch_store_full (hP W U) hN1 (L.up U) ht1 hh1 h8 (by omega) (by omega) (by omega) (c:=r.1) (g:=r.2) hn hl h7 hin) hx)
      |false=>exact ptold hh hx h20 (by rw[exec_store_full_bad hh (rc:=r.1) (rg:=r.2) hn hl h7 hin];rfl) (pst_touch H hN L ht hh h20 rfl rfl rfl rfl rfl rfl rfl rfl rfl rfl rfl (fun W U=>ptouch_store_full_bad (hP W U) hN1 (L.up U) ht1 hh1 h8 (by omega) (by omega) (by omega) (c:=r.1) (g:=r.2) hn hl h7 hin) hx)
   ·obtain ⟨h1,h2,h3⟩:=hi;obtain ⟨ra,rfl,ha⟩:=reg_nat h1;obtain ⟨rb,rfl,hb⟩:=reg_nat h2;obtain ⟨rc,rfl,hc⟩:=reg_nat h3
    cases hn:m.names (h.regs.getD rb 0)with
    |none=>exact ptold hh hx h20 (by rw[exec_swap_none hh hn]) (pst_touch H hN L ht hh h20 rfl rfl rfl rfl rfl rfl rfl rfl rfl rfl rfl (fun W U=>ptouch_swap_none (hP W U) hN1 (L.up U) ht1 hh1 h8 (by omega) (by omega) (by omega) hn) hx)
    |some r=>
     obtain ⟨kc,kg⟩:=r;obtain ⟨k,rfl,hk⟩:=names_nat hn;exact ptold hh hx h20 (by rw[exec_swap_ok hh hn];rfl) (pst_touch H hN L ht hh h20 rfl rfl rfl rfl rfl rfl rfl rfl rfl rfl rfl (fun W U=>ptouch_swap_ok (hP W U) hN1 (L.up U) ht1 hh1 h8 (by omega) (by omega) (by omega) hn) hx)
   ·obtain ⟨h1,h2,h3⟩:=hi;obtain ⟨ra,rfl,ha⟩:=reg_nat h1;obtain ⟨rb,rfl,hb⟩:=reg_nat h2;obtain ⟨rc,rfl,hc⟩:=reg_nat h3
    cases hn:m.names (h.regs.getD ra 0)with
    |none=>exact ptold hh hx h20 (by rw[exec_cas_none hh hn]) (pst_touch H hN L ht hh h20 rfl rfl rfl rfl rfl rfl rfl rfl rfl rfl rfl (fun W U=>ptouch_cas_none (hP W U) hN1 (L.up U) ht1 hh1 h8 (by omega) (by omega) (by omega) hn) hx)
    |some r=>
     obtain ⟨kc,kg⟩:=r;obtain ⟨k,rfl,hk⟩:=names_nat hn;exact ptold hh hx h20 (by rw[exec_cas_ok hh hn];rfl) (pst_touch H hN L ht hh h20 rfl rfl rfl rfl rfl rfl rfl rfl rfl rfl rfl (fun W U=>ptouch_cas_ok (hP W U) hN1 (L.up U) ht1 hh1 h8 (by omega) (by omega) (by omega) hn) hx)
   ·obtain ⟨ra,rfl,ha⟩:=reg_nat hi
    cases hal:allocAt m.cells 0 with
    |none=>exact ptold hh hx h20 (by rw[exec_alloc_none hal]) (pst_touch H hN L ht hh h20 rfl rfl rfl rfl rfl rfl rfl rfl rfl rfl rfl (fun W U=>ptouch_alloc_none (hP W U) hN1 (L.up U) ht1 hh1 h8 (by omega) hal) hx)
    |some r=>exact ptold hh hx h20 (by rw[exec_alloc_ok (i:=r.1) (n:=r.2) hal]) (pst_touch H hN L ht hh h20 rfl rfl rfl rfl rfl rfl rfl rfl rfl rfl rfl (fun W U=>ptouch_alloc_ok (hP W U) hN1 (L.up U) ht1 hh1 h8 (by omega) (i:=r.1) (n:=r.2) hal) hx)
   ·obtain ⟨ra,rfl,ha⟩:=reg_nat hi
    cases hn:m.names (h.regs.getD ra 0)with
    |none=>exact ptold hh hx h20 (by rw[exec_free_none hh hn]) (pst_touch H hN L ht hh h20 rfl rfl rfl rfl rfl rfl rfl rfl rfl rfl rfl (fun W U=>ptouch_free_none (hP W U) hN1 (L.up U) ht1 hh1 h8 (by omega) hn) hx)
    |some r=>
     obtain ⟨kc,kg⟩:=r;obtain ⟨k,rfl,hk⟩:=names_nat hn;exact ptold hh hx h20 (by rw[exec_free_ok hh hn];rfl) (pst_touch H hN L ht hh h20 rfl rfl rfl rfl rfl rfl rfl rfl rfl rfl rfl (fun W U=>ptouch_free_ok (hP W U) hN1 (L.up U) ht1 hh1 h8 (by omega) hn) hx)
   ·exact ptold hh hx h20 exec_fence (pst_touch H hN L ht hh h20 rfl rfl rfl rfl rfl rfl rfl rfl rfl rfl rfl (fun W U=>ptouch_fence (hP W U) hN1 (L.up U) ht1 hh1 h8) hx)
   ·exact ptold hh hx h20 (by rw[exec_force];simp[M.setPc]) (pst_touch H hN L ht hh h20 rfl rfl rfl rfl rfl rfl rfl rfl rfl rfl rfl (fun W U=>ptouch_force (hP W U) hN (L.up U) ht1 hh1 h8) hx)
   ·obtain ⟨ra,rfl,ha⟩:=reg_nat hi;obtain ⟨i,hi⟩:=Option.isSome_iff_exists.1 (hlab (.inl rfl))
    by_cases hz:h.regs.getD ra 0=0
    ·exact ptold hh hx h20 (exec_zero_yes hh hi hz) (pst_zero_yes H hN L ht hh (by omega) hz hi hto hx)
    ·exact ptold hh hx h20 (exec_zero_no hh hz) (pst_zero_no H hN L ht hh (by omega) hz hx)
   ·obtain ⟨h1,h2⟩:=hi;obtain ⟨ra,rfl,ha⟩:=reg_nat h1;obtain ⟨rb,rfl,hb⟩:=reg_nat h2;obtain ⟨i,hi⟩:=Option.isSome_iff_exists.1 (hlab (.inr (.inl rfl)))
    by_cases hz:h.regs.getD ra 0=h.regs.getD rb 0
    ·exact ptold hh hx h20 (exec_same_yes hh hi hz) (pst_same_yes H hN L ht hh (by omega) (by omega) hz hi hto hx)
    ·exact ptold hh hx h20 (exec_same_no hh hz) (pst_same_no H hN L ht hh (by omega) (by omega) hz hx)
   ·obtain ⟨i,hi⟩:=Option.isSome_iff_exists.1 (hlab (.inr (.inr rfl)));exact ptold hh hx h20 (exec_goto hh hi) (pst_goto H hN L ht hh hi hto hx)
   ·exact ptold hh hx h20 exec_label (pst_touch H hN L ht hh h20 rfl rfl rfl rfl rfl rfl rfl rfl rfl rfl rfl (fun W U=>ptouch_label (hP W U) hN1 (L.up U) ht1 hh1 h8) hx)
   ·obtain ⟨ra,rfl,ha⟩:=reg_nat hi
    by_cases h5:m.marks.length<500
    ·exact ptold hh hx h20 (exec_mark_ok hh h5) (pst_mark H hN L ht hh (by omega) h5 hx)
    ·exact ptold hh hx h20 (exec_mark_full h5) (pst_mark_full H hN L ht hh (by omega) h5 hx)
   ·obtain ⟨ra,rfl,ha⟩:=reg_nat hi
    by_cases hz:h.regs.getD ra 0=0
    ·exact ptold hh hx h20 (by rw[exec_need hh];unfold needM;rw[if_pos hz]) (pst_need_yes H hN L ht hh (by omega) hz hx)
    ·exact ptold hh hx h20 (by rw[exec_need hh];unfold needM;rw[if_neg hz]) (pst_need_no H hN L ht hh (by omega) hz hx)
   ·have h21:¬op=20:=h20;have:op≤20:=insOk_le hi;omega
end
section
open Go.RowKit Qs Qh
variable {n:Nat}{init regs:List (List Int)}{codes:List (List Instr)}
theorem startM_okM(h1:1≤n)(hn:n≤64)(hc6:codes.length≤6)(hi:RowsFine 4 init):OkM 1 (startM n init regs codes):=by
 have:=preM_ok (i:=init.length) h1 hn hc6 hi;exact ⟨this.cells1,this.cells,this.words,this.times,this.waits,this.wlen,this.wval,this.N0⟩
theorem startM_labs{raw:List (List RI)}(hcs:codes.map (fun c=>c.map rawI)=raw)(ho:∀l∈raw,∀x∈l,x.to.size≤maxLen):LabsOk (startM n init regs codes):=by
 intro t x hx y hy;obtain ⟨c,hc,rfl⟩:=startM_T' hx
 have h1:c.map rawI∈raw:=by rw[←hcs];exact List.mem_map.2 ⟨c,List.mem_of_getElem? hc,rfl⟩
 have:=ho _ h1 (rawI y) (List.mem_map.2 ⟨y,hy,rfl⟩)
 simpa[rawI,ByteArray.size]using this
theorem rawI_inj{x y:Instr}(hx:x.op<21)(hy:y.op<21)(h:rawI x=rawI y):x=y:=by
 obtain ⟨o1,a1,b1,c1,t1⟩:=x;obtain ⟨o2,a2,b2,c2,t2⟩:=y;unfold rawI at h;simp only[RI.mk.injEq,ByteArray.mk.injEq]at h;obtain ⟨e1,rfl,rfl,rfl,e5⟩:=h;have:=opStr_inj o1 hx o2 hy e1;subst this
 have e:t1=t2:=by have:=congrArg Array.toList e5;simpa using this
 rw[e]
theorem insFine_op{x:Instr}{c:List Instr}(h:CodeFine c)(hx:x∈c):x.op<21:=by
 have:=insOk_le (h.ok.ins x hx);omega
def oneC:List Instr:=[⟨0,0,7,0,[]⟩,⟨18,0,0,0,[]⟩]
theorem one_codes{cs:List (List Instr)}(h:cs.map (fun c=>c.map rawI)=[oneC.map rawI])(hf:∀c∈cs,CodeFine c):cs=[oneC]:=by
 obtain ⟨c,rfl⟩:=List.length_eq_one_iff.1 (show cs.length=1 by have:=congrArg List.length h;simpa using this);simp only[List.map_cons,List.map_nil,List.cons.injEq,and_true]at h;have hc:=hf c (by simp)
 rcases c with _|⟨x,_|⟨y,_|⟨z,r⟩⟩⟩
 ·simp[oneC]at h
 ·simp[oneC]at h
 ·simp only[oneC,List.map_cons,List.map_nil,List.cons.injEq,and_true]at h;have hx:=rawI_inj (insFine_op hc (by simp)) (by decide) h.1;have hy:=rawI_inj (insFine_op hc (by simp)) (by decide) h.2;rw[hx,hy];rfl
 ·simp[oneC]at h
def oneM0:M:=⟨[⟨[0,0,0,0],0,false⟩],[[]],[⟨oneC,[0,0,0,0,0,0,0,0],0⟩],[],0⟩
def oneM1:M:=⟨[⟨[0,0,0,0],0,false⟩],[[]],[⟨oneC,[7,0,0,0,0,0,0,0],1⟩],[],0⟩
def oneM2:M:=⟨[⟨[0,0,0,0],0,false⟩],[[]],[⟨oneC,[7,0,0,0,0,0,0,0],2⟩],[(0,7)],0⟩
theorem one_fine:CodeFine oneC:=codeFine_of (by decide +kernel)
theorem oneM0_eq:startM 1 [] [] [oneC]=oneM0:=rfl
theorem one_step0:oneM0.step 0=(oneM1,0):=rfl
theorem one_step1:oneM1.step 0=(oneM2,0):=rfl
theorem one_step2:oneM2.step 0=(oneM2,9):=rfl
theorem one_okM:OkM 1 oneM0∧OkM 1 oneM1∧OkM 1 oneM2:=by
 have h:=startM_okM (n:=1) (init:=[]) (regs:=[]) (codes:=[oneC]) (by decide) (by decide) (by decide) (fun l h=>by simp at h);rw[oneM0_eq]at h;exact ⟨h,⟨h.cells1,h.cells,h.words,h.times,h.waits,h.wlen,h.wval,h.N0⟩,⟨h.cells1,h.cells,h.words,h.times,h.waits,h.wlen,h.wval,h.N0⟩⟩
theorem one_okT:OkT 1 oneM0∧OkT 1 oneM1∧OkT 1 oneM2:=by
 have hk:∀ {r:List Int} {p:Nat} {mk:List (Int × Int)},r.length=8→(∀v∈r,isWord v=true)→p≤2→mk.length≤500→OkT 1 ⟨[⟨[0,0,0,0],0,false⟩],[[]],[⟨oneC,r,p⟩],mk,0⟩:=fun hr hw hp hm=>by
  refine ⟨rfl,Nat.le_refl _,fun t h hh=>?_,fun t h hh=>?_,hm,⟨Int.le_refl _,(by decide:(0:Int)≤1)⟩⟩
  ·match t,hh with
   |0,hh=>cases hh;exact ⟨hr,hw⟩
   |t+1,hh=>simp at hh
  ·match t,hh with
   |0,hh=>cases hh;exact ⟨hp,one_fine.ok⟩
   |t+1,hh=>simp at hh
 exact ⟨hk rfl (by decide) (by decide) (by decide),hk rfl (by decide) (by decide) (by decide),hk rfl (by decide) (by decide) (by decide)⟩
theorem one_labs:LabsOk oneM0∧LabsOk oneM1∧LabsOk oneM2:=by
 have hk:∀ {r:List Int} {p:Nat} {mk:List (Int × Int)},LabsOk ⟨[⟨[0,0,0,0],0,false⟩],[[]],[⟨oneC,r,p⟩],mk,0⟩:=fun {r p mk} t h hh x hx=>by
  match t,hh with
  |0,hh=>
   cases hh;simp only[oneC,List.mem_cons,List.not_mem_nil,or_false]at hx
   rcases hx with rfl|rfl <;> exact Nat.zero_le _
  |t+1,hh=>simp at hh
 exact ⟨hk,hk,hk⟩
theorem one_chk:(chkR (oneC.map rawI)).1=0:=by decide +kernel
theorem lawOne_any{w:World}{a:Nat→Addr}(E:ErrsAt w a):Calls Tryz.prog 8 #[] w fun e w'=>e=.returned (.bool true)∧Mod noF w w':=by
 obtain ⟨w1,hw1⟩:∃w1,w1=(w.alloc (.cells #[.string ⟨#[99,111,110,115,116]⟩,.int .i64 0,.int .i64 7,.int .i64 0,.string ⟨#[]⟩,.string ⟨#[109,97,114,107]⟩,.int .i64 0,.int .i64 0,.int .i64 0,.string ⟨#[]⟩] 73)).alloc (.cells #[.slice (some ⟨w.heap.size,0,none⟩) 2 2] 46):=⟨_,rfl⟩
 have hm1:Mod noF w w1:=by rw[hw1];exact ((Mod.refl noF w).alloc _).alloc _
 have c0:∀j v,(#[Value.string ⟨#[99,111,110,115,116]⟩,.int .i64 0,.int .i64 7,.int .i64 0,.string ⟨#[]⟩,.string ⟨#[109,97,114,107]⟩,.int .i64 0,.int .i64 0,.int .i64 0,.string ⟨#[]⟩]:Array Value)[j]?=some v→w1.cell? ⟨w.heap.size,j,none⟩=some v:=fun j v hv=>by
  have hh:w1.heap[w.heap.size]?=some (.cells #[.string ⟨#[99,111,110,115,116]⟩,.int .i64 0,.int .i64 7,.int .i64 0,.string ⟨#[]⟩,.string ⟨#[109,97,114,107]⟩,.int .i64 0,.int .i64 0,.int .i64 0,.string ⟨#[]⟩] 73 (0,0)):=by
   rw[hw1];exact ((Mod.refl noF _).alloc _).heap (heap_alloc_new w _) (fun e=>e)
  rw[cell_of_heap hh];exact hv
 have c1:w1.cell? ⟨w.heap.size+1,0,none⟩=some (.slice (some ⟨w.heap.size,0,none⟩) 2 2):=by rw[hw1];simp
 have hs1:w1.heap.size=w.heap.size+2:=by rw[hw1];simp
 have hRC:RCode w1 (.slice (some ⟨w.heap.size,0,none⟩) 2 2) (oneC.map rawI):=by
  refine ⟨⟨_,_,rfl,fun i x hx=>?_⟩,fun x hx=>?_⟩
  ·match i,hx with
   |0,hx=>cases hx;exact ⟨_,_,rfl,by omega,c0 0 _ rfl,c0 1 _ rfl,c0 2 _ rfl,c0 3 _ rfl,c0 4 _ rfl⟩
   |1,hx=>cases hx;exact ⟨_,_,rfl,by omega,c0 5 _ rfl,c0 6 _ rfl,c0 7 _ rfl,c0 8 _ rfl,c0 9 _ rfl⟩
   |i+2,hx=>simp[oneC]at hx
  ·simp only[oneC,List.map_cons,List.map_nil,List.mem_cons,List.not_mem_nil,or_false]at hx
   rcases hx with rfl|rfl <;> exact Nat.zero_le _
 have hRCs:RCodesAt w1 (.slice (some ⟨w.heap.size+1,0,none⟩) 1 1) [oneC.map rawI] (fun _=>.slice (some ⟨w.heap.size,0,none⟩) 2 2):=by
  refine ⟨_,_,rfl,fun i l hi=>?_⟩
  match i,hi with
  |0,hi=>cases hi;exact ⟨_,_,rfl,by omega,c1,hRC,trivial⟩
  |i+1,hi=>simp at hi
 have hnil:RowsAt0 w1 (.slice none 0 0) []:=⟨none,0,rfl,fun i l h=>by simp at h⟩
 have hnew:=pnew_any 1 (.slice none 0 0) (.slice none 0 0) (.slice (some ⟨w.heap.size+1,0,none⟩) 1 1) [] [] [oneC.map rawI] _ w1 (E.keep hm1) hnil hnil hRCs (fun l hl=>by simp at hl;rw[hl];show 2≤maxLen;unfold maxLen;omega);have Hnew:=Lib.hid hnew;have Hm1:=Lib.hid hm1;have HE1:=Lib.hid (E.keep hm1)
 clear hnew hm1 hRC hRCs hnil c0 c1 hs1 E
 go_enter Tryz.func8,Tryz.ntmps8
 go_wp2_with fail
 rw[←hw1];clear hw1;refine Hnew.out.mono ?_;rintro e w2 (⟨hs,-⟩|⟨k,hk,-,hb|hg⟩)
 ·exact absurd (show ShapeR 1 [] [] [oneC.map rawI]from ⟨by decide,by decide,by decide,by decide,by decide,by decide,rfl,rfl⟩) hs
 ·obtain ⟨i,c,hc,-,hne,-⟩:=hb
  match i,hc with
  |0,hc=>cases hc;exact absurd one_chk hne
  |i+1,hc=>simp at hc
 ·obtain ⟨cs,X,vs,mv,hcs,hf,rfl,hP,hm2,hlow,-⟩:=hg;obtain rfl:=one_codes hcs hf
  obtain rfl:k=1:=by omega
  rw[oneM0_eq]at hP;have L0:XLow w1 w2 a X vs mv:=⟨HE1.out,hm2,hlow⟩;have h0:=pst_any (t:=0) ⟨hP,one_okM.1,one_okT.1⟩ (by decide) L0 one_labs.1 (by decide);rw[one_step0]at h0;have b0:=hP.top_at.2.2.2.2.2;have H0:=Lib.hid h0;have HL0:=Lib.hid L0;clear h0 L0 hP hm2 hlow hcs hf hk Hnew
  go_wp2_with fail
  refine H0.out.mono ?_;rintro e w3 ⟨rfl,vs1,mv1,U1⟩;have L1:=HL0.out.up U1;have h1:=pst_any (t:=0) ⟨U1.rep,one_okM.2.1,one_okT.2.1⟩ (by decide) L1 one_labs.2.1 (by decide);rw[one_step1]at h1;have H1:=Lib.hid h1;have HL1:=Lib.hid L1;rw[show errOf' a ((oneM1,(0:Int)).2)=.nilIface from rfl]
  clear h1 L1 U1 H0 HL0
  go_wp2_with fail
  refine H1.out.mono ?_;rintro e w4 ⟨rfl,vs2,mv2,U2⟩;have L2:=HL1.out.up U2;have h2:=pst_any (t:=0) ⟨U2.rep,one_okM.2.2,one_okT.2.2⟩ (by decide) L2 one_labs.2.2 (by decide);rw[one_step2]at h2;have H2:=Lib.hid h2;have HL2:=Lib.hid L2;rw[show errOf' a ((oneM2,(0:Int)).2)=.nilIface from rfl]
  clear h2 L2 U2 H1 HL1
  go_wp2_with fail
  refine H2.out.mono ?_;rintro e w5 ⟨rfl,vs3,mv3,U3⟩;have L3:=HL2.out.up U3;have hcd:=coded_self L3.E 9 (by decide) (by decide);have X3:PX w5 X vs3 mv3 oneM2 1:=⟨U3.rep,one_okM.2.2,one_okT.2.2⟩;have HX3:=Lib.hid X3;have Hcd:=Lib.hid hcd;have HL3:=Lib.hid L3;clear hcd X3 L3 U3 H2 HL2
  go_wp2_with fail
  refine Hcd.out.mono ?_;rintro e w6 ⟨rfl,hm6⟩;have hmk:=pmarks_any (HX3.out.keep0 hm6);have Hmk:=Lib.hid hmk;have Hm6:=Lib.hid hm6;clear hmk hm6 Hcd
  go_wp2_with fail
  refine Hmk.out.mono ?_;rintro e w7 ⟨v',rfl,hv,hm7⟩;have hm67:=Hm6.out.trans0 hm7;obtain ⟨va,vc,rfl,hvx⟩:=hv;obtain ⟨b,off,rfl,hb,-,hc1⟩:=hvx 0 ((0:Int),(7:Int)) rfl;have hdn:=pdone_any (HX3.out.keep0 hm67) 0 (by decide);rw[show oneM2.done 0=true from rfl]at hdn;have Hdn:=Lib.hid hdn
  have Hm67:=Lib.hid hm67;have Hc1:=hc1;simp only[Nat.zero_mul,Nat.add_zero]at Hc1;clear hvx hdn hm7 hm67 hc1 Hmk
  go_wp2_with fail
  refine Hdn.out.mono ?_;rintro e w8 ⟨rfl,hm8⟩;have hft:=pfaults_any (HX3.out.keep0 (Hm67.out.trans0 hm8)).p;rw[show oneM2.faults=0 from rfl]at hft;have Hft:=Lib.hid hft;have Hm8:=Lib.hid hm8;clear hft hm8 Hdn
  go_wp2_with fail
  refine Hft.out.mono ?_;rintro e w9 ⟨rfl,rfl⟩;go_wp2;go_ret;exact ⟨rfl,((Hm1.out.trans0 HL3.out.mod).trans0 Hm67.out).trans0 Hm8.out⟩
end
section
open Go.RowKit Qs Qh
variable {w w1 w2 w' b0:World}{X:XB}{vs vs':List Value}{mv mv':Value}{L L':Lay}{m m':M}{N N':Int}{a:Nat→Addr}
theorem Duo.start{wp:World}{n:Nat}{init regs:List (List Int)}{cs:List (List Instr)}{raw:List (List RI)}{cv:Nat→Value}(E:ErrsAt b0 a)(hcs:cs.map (fun c=>c.map rawI)=raw)(ho:∀l∈raw,∀x∈l,x.to.size≤maxLen)
  (hP:PMach wp X vs mv (startM n init regs cs)) (hm:Mod noF b0 wp) (hlow:∀x,XFoot X vs mv x→b0.heap.size≤x)
  (hown:∀(t:Nat) h,(startM n init regs cs).T[t]?=some h→(∀g,(X.cv t).ownBlock=some g→b0.heap.size≤g)∧b0.heap.size≤X.mb t)
  (hM:Mach ty w L (startM n init regs cs) 1) (hB:Mod noF wp w) (hf:∀j,Foot ty allK L (startM n init regs cs) j→wp.heap.size≤j)
  (hcode:L.code=cv) (hcv:∀(t:Nat) c,cs[t]?=some c→c≠[]→∀g,(cv t).ownBlock=some g→g<b0.heap.size):Duo b0 w a X vs mv L (startM n init regs cs) 1:=by
 refine ⟨hP.keep0 hB,⟨E,hm.trans0 hB,hlow⟩,hM,fun x hx=>Nat.le_trans hm.size (hf x hx),fun x hx hxf=>?_,fun t h hh=>⟨fun g hg hx=>?_,fun hx=>?_⟩,fun t h hh hn g hg hx=>?_,startM_labs hcs ho⟩
 ·have:=hf x hx;have:=hP.lt hxf;omega
 ·have:=hf g hx;have:=((hP.code t h hh).2 g hg).2;omega
 ·have:=hf _ hx;have:=(hP.maps t h hh).1.lt;omega
 ·obtain ⟨c,hc,rfl⟩:=startM_T' hh;rw[hcode]at hg
  have:=hcv t c hc hn g hg;have:=hlow g hx;omega
theorem rcode_code{v:Value}{c:List Instr}(h:RCode w v (c.map rawI))(hc:∃a n k,v=.slice a n k∧k≤maxLen):CodeAt w v c:=by
 obtain ⟨⟨sa,sc,rfl,hx⟩,-⟩:=h;obtain ⟨a1,n1,k1,e,hk⟩:=hc;cases e;refine ⟨_,_,by rw[List.length_map],hk,fun i x hi=>?_⟩;obtain ⟨b,off,rfl,hb,h0,h1,h2,h3,h4⟩:=hx i (rawI x) (by rw[List.getElem?_map,hi];rfl);refine ⟨b,off,rfl,hb,fun j y hy=>?_⟩
 match j,hy with
 |0,hy=>cases hy;exact h0
 |1,hy=>cases hy;exact h1
 |2,hy=>cases hy;exact h2
 |3,hy=>cases hy;exact h3
 |4,hy=>cases hy;exact h4
 |j+5,hy=>simp[instrVals]at hy
theorem rcodes_codes{v:Value}{cs:List (List Instr)}{raw:List (List RI)}{cv:Nat→Value}(h:RCodesAt w v raw cv)(hcs:cs.map (fun c=>c.map rawI)=raw)(hcap:∀(i:Nat) l,raw[i]?=some l→∃a n k,cv i=.slice a n k∧k≤maxLen):CodesAt0 w v cs cv:=by
 subst hcs;obtain ⟨a,c,e,hx⟩:=h;refine ⟨a,c,by rw[e,List.length_map],fun i l hi=>?_⟩
 have hi':(cs.map (fun c=>c.map rawI))[i]?=some (l.map rawI):=by rw[List.getElem?_map,hi];rfl
 obtain ⟨b,off,e1,hb,hc,hr,ho⟩:=hx i _ hi';exact ⟨b,off,e1,hb,hc,rcode_code hr (hcap i _ hi'),ho⟩
end
section
open Go.RowKit Qs Qh
theorem startOf_any(n:Int)(iw rw_:Value)(w:World)(hi:∃a b c,iw=.slice a b c)(hr:∃a b c,rw_=.slice a b c) :
  Calls Tryz.prog 11 #[.agg #[.int .i64 n,iw,rw_]] w fun e w'=>e=.returned (.agg #[.int .i64 n,iw,rw_])∧Mod noF w w':=by
 obtain ⟨a1,b1,c1,rfl⟩:=hi;obtain ⟨a2,b2,c2,rfl⟩:=hr
 go_enter Tryz.func11,Tryz.ntmps11
 go_wp2;refine bodyPost_ret (v:=.agg #[.int .i64 n,.slice a1 b1 c1,.slice a2 b2 c2]) (by simp[results,Tryz.results11,go_sem]) rfl ⟨rfl,((Mod.refl noF w).alloc _).alloc _⟩
structure LawIn(w:World)(a:Nat→Addr)(iw rw_ cw sw:Value)(init regs:List (List Int))(codes:List (List RI))(cv:Nat→Value)(script:List Int):Prop where
 errs:ErrsAt w a
 fI:RowsAt0 w iw init
 fR:RowsAt0 w rw_ regs
 fC:RCodesAt w cw codes cv
 fS:IntsAt w sw script
 li:init.length≤maxLen
 lr:regs.length≤maxLen
 lc:codes.length≤maxLen
 lk:∀l∈codes,l.length≤maxLen
 cap:∀(i:Nat) l,codes[i]?=some l→∃a n k,cv i=.slice a n k∧k≤maxLen
theorem rows_slice{w:World}{v:Value}{ll:List (List Int)}(h:RowsAt0 w v ll):∃a b c,v=.slice a b c:=by
 obtain ⟨a,c,e,-⟩:=h;exact ⟨a,_,c,e⟩
end
section
open Go.RowKit Qs Qh
variable {w w1 w2 w' b0:World}{X:XB}{vs vs':List Value}{mv mv':Value}{m m':M}{N:Int}{a:Nat→Addr}
theorem LabsOk.turn(h:LabsOk m)(n:Int):LabsOk (m.turn n).1:=fun t k hk x hx=>by
 obtain ⟨k0,h0,e⟩:=cs_thr (turn_cs m n) hk;rw[e]at hx;exact h t k0 h0 x hx
theorem rem_fix(n k:Int)(hk:0<k):(n.tmod k+k).tmod k=n % k∧-k<n.tmod k∧n.tmod k<k:=by
 have h1:=Int.emod_nonneg n (show k≠0 by omega);have h2:=Int.emod_lt_of_pos n hk
 have h3 : -k<n.tmod k:=by have:=Int.tmod_lt_of_pos (-n) hk;rw[Int.neg_tmod]at this;omega
 have h4:=Int.tmod_lt_of_pos n hk;refine ⟨?_,h3,h4⟩;rw[Int.tmod_eq_emod_of_nonneg (by omega),Int.add_emod_right];have hd:=Int.tmod_add_mul_tdiv n k
 have:n % k=(n.tmod k+k*n.tdiv k) % k:=by rw[hd]
 rw[this,Int.add_mul_emod_self_left]
theorem turn_at'(m:M)(n:Int){q:Nat}(hq:n % (2*(m.T.length:Int))=q):m.turn n=if q<m.T.length then m.step q else m.drain (q - m.T.length):=by
 unfold M.turn;simp only[hq,Int.toNat_natCast]
theorem pturn_any(H:PX w X vs mv m N)(hN:N≤900000000)(L:XLow b0 w a X vs mv)(hLab:LabsOk m)(n:Int)(hlo : -9223372036854775808≤n)(hhi:n≤9223372036854775807) :
  Calls Tryz.prog 66 #[.pointer (some ⟨X.bX,0,none⟩),.int .i64 n] w fun e w'=>e=.returned (.bool (decide ((m.turn n).2=0)))∧∃vs' mv',XUp w X vs mv m w' (m.turn n).1 vs' mv':=by
 obtain ⟨t0,t1,t2,t3,t4,t5⟩:=H.p.top_at;have ht6:=H.t6;have ht1:=H.ot.t1
 have hk:(0:Int)<2*(m.T.length:Int):=by omega
 have hk0:(2*(m.T.length:Int)==0)=false:=by rw[beq_eq_false_iff_ne];omega
 obtain ⟨hfix,hr1,hr2⟩:=rem_fix n (2*(m.T.length:Int)) hk;have h1:=Int.emod_nonneg n (show (2*(m.T.length:Int))≠0 by omega);have h2:=Int.emod_lt_of_pos n hk;obtain ⟨q,hq⟩:=Int.eq_ofNat_of_zero_le h1;have hta:=turn_at' m n hq;rw[hq]at hfix h2;have HX:=Lib.hid H;have HL:=Lib.hid L
 have HLab:=Lib.hid hLab;have Hta:=Lib.hid hta;clear H L hLab hq hta h1;obtain ⟨r,hr⟩:∃r,n.tmod (2*(m.T.length:Int))=r:=⟨_,rfl⟩;rw[hr]at hfix hr1 hr2
 by_cases hqt:q<m.T.length
 ·have hd:decide ((q:Int)<(m.T.length:Int))=true:=by simp;omega
  rw[if_pos hqt]at Hta
  go_enter Tryz.func66,Tryz.ntmps66
  go_wp2_with fail
  refine (pst_any HX.out hN HL.out HLab.out hqt).mono ?_;rintro e w5 ⟨rfl,h5⟩;have H5:=Lib.hid (h5);clear h5
  by_cases hz:(m.step q).2=0
  ·have ez:errOf' a (m.step q).2=.nilIface:=by rw[hz];rfl
   have Hz:=Lib.hid hz;rw[ez];clear hz ez;go_wp2;go_ret;rw[Hta.out];exact ⟨by rw[Hz.out];rfl,H5.out⟩
  ·have ez:errOf' a (m.step q).2=errV a ((m.step q).2.toNat - 1):=by unfold errOf';rw[if_neg hz]
   have hdz:decide ((m.step q).2=0)=false:=by simpa using hz
   have Hz:=Lib.hid hdz;rw[ez];clear hz ez hdz;unfold errV;go_wp2;go_ret;rw[Hta.out];exact ⟨by rw[Hz.out];rfl,H5.out⟩
 ·obtain ⟨p,rfl⟩:∃p,q=m.T.length+p:=⟨q - m.T.length,by omega⟩
  have hp2:p<m.T.length:=by omega
  have hp3:m.T.length+p - m.T.length=p:=by omega
  rw[if_neg hqt,hp3]at Hta;rw[Int.natCast_add]at h2 hfix
  have hd:decide ((m.T.length:Int)+(p:Int)<(m.T.length:Int))=false:=by simp;omega
  have hsub:(m.T.length:Int)+(p:Int) - (m.T.length:Int)=p:=by omega
  clear hp3
  go_enter Tryz.func66,Tryz.ntmps66
  go_wp2_with fail
  refine (pmdrain_any HX.out (by omega) HL.out hp2).mono ?_;rintro e w5 ⟨rfl,h5⟩;have H5:=Lib.hid (show ∃vs' mv',XUp w X vs mv m w5 (m.drain p).1 vs' mv' from h5.elim fun vs1 h=>⟨vs1,mv,h⟩);clear h5
  by_cases hz:(m.drain p).2=0
  ·have ez:errOf' a (m.drain p).2=.nilIface:=by rw[hz];rfl
   have Hz:=Lib.hid hz;rw[ez];clear hz ez;go_wp2;go_ret;rw[Hta.out];exact ⟨by rw[Hz.out];rfl,H5.out⟩
  ·have ez:errOf' a (m.drain p).2=errV a ((m.drain p).2.toNat - 1):=by unfold errOf';rw[if_neg hz]
   have hdz:decide ((m.drain p).2=0)=false:=by simpa using hz
   have Hz:=Lib.hid hdz;rw[ez];clear hz ez hdz;unfold errV;go_wp2;go_ret;rw[Hta.out];exact ⟨by rw[Hz.out];rfl,H5.out⟩
end
section
open Go.RowKit Qs Qh
variable {w w1 w2 w' b0:World}{X:XB}{vs vs':List Value}{mv mv':Value}{m m':M}{N:Int}{a:Nat→Addr}
theorem frameP{w w':World}{F:Nat→Prop}{v:Value}{l:List Int}(h:IntsAt w v l)(hM:Mod F w w')(hF:l≠[]→∀b,v.ownBlock=some b→¬F b):IntsAt w' v l:=by
 by_cases e:l=[]
 ·subst e;obtain ⟨a,c,rfl,hc,hx⟩:=h.at_;exact ⟨a,c,rfl,hc,fun i x hi=>by simp at hi⟩
 ·exact h.frame hM (hF e)
def prunRel(w:World)(X:XB)(vs:List Value)(mv:Value)(m:M)(N:Int)(l:List Int)(k:Nat)(d i:Value)(wr:World):Prop:=
 i=.int .i64 k∧d=.int .i64 (m.run (l.take k)).2∧(∃vs' mv',XUp w X vs mv m wr (m.run (l.take k)).1 vs' mv')∧OkA (N+48*k) (m.run (l.take k)).1∧LabsOk (m.run (l.take k)).1
theorem prun_any(H:PX w X vs mv m N)(hN:N≤800000000)(L:XLow b0 w a X vs mv)(hLab:LabsOk m)(v:Value)(l:List Int)(hl:IntsAt w v l)(hcap:∀a n c,v=.slice a n c→n≤c)(hlen:l.length≤20000)(hw:∀x∈l,-9223372036854775808≤x∧x≤9223372036854775807)(hv:l≠[]→∀b,v.ownBlock=some b→¬XFoot X vs mv b) :
  Calls Tryz.prog 23 #[.pointer (some ⟨X.bX,0,none⟩),v] w fun e w'=>e=.returned (.int .i64 (m.run l).2)∧(∃vs' mv',XUp w X vs mv m w' (m.run l).1 vs' mv')∧OkA (N+48*l.length) (m.run l).1∧LabsOk (m.run l).1:=by
 obtain ⟨ad,c,rfl,hcm,hcell⟩:=hl.at_;have HX:=Lib.hid H;have HL:=Lib.hid L;have HLab:=Lib.hid hLab;have Hl:=Lib.hid hl;have Hw:=Lib.hid hw;have Hv:=Lib.hid hv
 have hmin:¬(20000:Int)<(l.length:Int):=by omega
 unfold maxLen at hcm;have hlc:l.length≤c:=hcap _ _ _ rfl;clear H L hLab hl hw hv hcell hcap
 go_enter Tryz.func23,Tryz.ntmps23
 go_wp2_with fail
 go_loopw [5,7,14] (fun d _ i wr=>∃k:Nat,k≤l.length∧prunRel w X vs mv m N l k d i wr) (fun _ _ i _=>l.length - (intOf i).toNat)
 case atStart=>exact ⟨0,Nat.zero_le _,rfl,rfl,⟨vs,mv,by simpa[M.run]using XUp.quiet HX.out.p (Mod.refl _ _)⟩,by show OkA (N+48*((0:Nat):Int)) m;exact OkA.mono ⟨HX.out.om,HX.out.ot⟩ (by omega),HLab.out⟩
 case round=>
  rename_i wr
  obtain ⟨k,hk,rfl,rfl,⟨vs1,mv1,U⟩,hok,hlab⟩:=hrel;obtain ⟨wo,rfl⟩:∃wo:World,wo=wr:=⟨_,rfl⟩;have hd0:=M.run_two m (l.take k);have hlk:(l.take k).length≤k:=List.length_take_le _ _;generalize hmr:m.run (l.take k)=mr at *;obtain ⟨m1,d1⟩:=mr;simp only at hd0 U hok hlab;have Hmr:=Lib.hid hmr
  have HU:=Lib.hid U;have Hok:=Lib.hid hok;have Hlab:=Lib.hid hlab;obtain ⟨hd0,hd1⟩:=hd0
  have hd2:d1≤20000:=by omega
  clear hmr U hlk hok hlab
  by_cases hlt:k<l.length
  ·have hd:decide ((k:Int)<(l.length:Int))=true:=by simp;omega
   have hki:(k:Int)<(l.length:Int):=by omega
   obtain ⟨x,hx⟩:∃x,l[k]?=some x:=⟨_,List.getElem?_eq_getElem hlt⟩;obtain ⟨hw0,hw1⟩:=Hw.out x (List.mem_of_getElem? hx);obtain ⟨_,_,e',_,hcell⟩:=(frameP Hl.out HU.out.mod Hv.out).at_;cases e';obtain ⟨b,off,rfl,hb,hc⟩:=hcell k x hx
   have hcall:=pturn_any ⟨HU.out.rep,Hok.out.1,Hok.out.2⟩ (by omega) (HL.out.up HU.out) Hlab.out x hw0 hw1
   have htk:l.take (k+1)=l.take k++[x]:=by rw[List.take_succ_eq_append_getElem hlt];rw[List.getElem?_eq_getElem hlt]at hx;cases hx;rfl
   have hsn:=M.run_snoc m (l.take k) x;rw[←htk,Hmr.out]at hsn;have Hsn:=Lib.hid hsn;have Hcall:=Lib.hid hcall;clear hx hcell hcall htk hsn
   go_wp2_with fail
   refine Hcall.out.mono ?_;rintro e w5 ⟨rfl,vs2,mv2,U5⟩;have HU5:=Lib.hid U5;clear U5
   by_cases hz:(m1.turn x).2=0
   ·have Hz:=Lib.hid hz
    have ez:decide ((m1.turn x).2=0)=true:=by simpa using hz
    rw[ez];clear hz ez;go_wp2
    go_roundw
    case rel=>
     refine ⟨k+1,by omega,by go_num,?_,⟨vs2,mv2,?_⟩,?_,?_⟩
     ·rw[Hsn.out,if_pos Hz.out]
     ·rw[Hsn.out];exact HU.out.trans HU5.out
     ·rw[Hsn.out];exact (Hok.out.turn x).mono (by omega)
     ·rw[Hsn.out];exact Hlab.out.turn x
    case measure=>simp[intOf];omega
   ·have Hz:=Lib.hid hz
    have ez:decide ((m1.turn x).2=0)=false:=by simpa using hz
    rw[ez];clear hz ez;go_wp2
    go_roundw
    case rel=>
     refine ⟨k+1,by omega,by go_num,?_,⟨vs2,mv2,?_⟩,?_,?_⟩
     ·rw[Hsn.out];simp only;rw[if_neg Hz.out];simp
     ·rw[Hsn.out];exact HU.out.trans HU5.out
     ·rw[Hsn.out];exact (Hok.out.turn x).mono (by omega)
     ·rw[Hsn.out];exact Hlab.out.turn x
    case measure=>simp[intOf];omega
  ·have hd:decide ((k:Int)<(l.length:Int))=false:=by simp;omega
   obtain rfl:k=l.length:=by omega
   have htk:l.take l.length=l:=List.take_length;rw[htk]at Hmr;clear htk;go_wp2;go_ret;rw[Hmr.out];exact ⟨rfl,⟨vs1,mv1,HU.out⟩,Hok.out,Hlab.out⟩
end
section
open Go.RowKit Qs Qh
theorem chkR_le(l:List RI):(chkR l).1≤9:=by
 unfold chkR
 split
 ·decide
 ·have hF:∀(r:List RI) (s:Nat),(chkF l r s).1≤9:=by
   intro r
   induction r with
   |nil=>intro s;exact (by decide:(0:Int)≤9)
   |cons x r ih=>
    intro s;unfold chkF
    split
    ·show chkI l s x≤9;unfold chkI;have:=one_neg (x:=x)
     split
     ·omega
     ·split
      ·decide
      ·split <;> decide
    ·exact ih (s+1)
  exact hF l 0
structure LawRun(w:World)(a:Nat→Addr)(iw rw_ cw sw:Value)(init regs:List (List Int))(codes:List (List RI))(cv:Nat→Value)(script:List Int):Prop where
 li:LawIn w a iw rw_ cw sw init regs codes cv script
 si:ScriptIn w sw script
 wd:∀x∈script,-9223372036854775808≤x∧x≤9223372036854775807
 lt:script≠[]→∀b,sw.ownBlock=some b→b<w.heap.size
theorem machRuns_walk(n:Int)(iw rw_ cw sw:Value)(init regs:List (List Int))(codes:List (List RI))(cv:Nat→Value)(script:List Int)(w:World){a:Nat→Addr}(J:LawRun w a iw rw_ cw sw init regs codes cv script) :
  Calls Tryz.prog 4 #[.agg #[.int .i64 n,iw,rw_],cw,sw] w fun e w'=>e=.returned (.bool true)∧Mod noF w w':=by
 have I:=J.li;have HJ:=Lib.hid J;clear J;obtain ⟨wz,hwz⟩:∃wz,wz=w.alloc (.cells #[.int .i64 n,iw,rw_] 24):=⟨_,rfl⟩
 have hmz:Mod noF w wz:=by rw[hwz];exact (Mod.refl noF w).alloc _
 have h1:=lawOne_any (I.errs.keep hmz)
 have hvast:∀W,Mod noF w W→Calls Tryz.prog 9 #[.agg #[.int .i64 n,iw,rw_],cw] W fun e w'=>(∃k:Int,e=.returned (.int .i64 k))∧Mod noF W w':=fun W hW=>
  vast_any n iw rw_ cw init regs codes cv W (rows_keep0 I.fI hW) (rows_keep0 I.fR hW) (I.fC.keep hW) I.li I.lr I.lc I.lk
 have hstart:∀W,Calls Tryz.prog 11 #[.agg #[.int .i64 n,iw,rw_]] W fun e w'=>e=.returned (.agg #[.int .i64 n,iw,rw_])∧Mod noF W w':=fun W=>startOf_any n iw rw_ W (rows_slice I.fI) (rows_slice I.fR)
 have hnew:∀W,Mod noF w W→Calls Tryz.prog 10 #[.agg #[.int .i64 n,iw,rw_],cw] W fun e w'=>
   (¬ShapeR n init regs codes∧e=.returned (.tuple #[.pointer none,errV a 1])∧Mod noF W w')∨(∃k:Nat,n=k∧ShapeR n init regs codes∧(NewBad W a codes e w'∨NewGood W k init regs codes e w')):=fun W hW=>
  pnew_any n iw rw_ cw init regs codes cv W (I.errs.keep hW) (rows_keep0 I.fI hW) (rows_keep0 I.fR hW) (I.fC.keep hW) I.lk
 have hsf:∀W,Mod noF w W→Calls Tryz.prog 21 #[.agg #[.int .i64 n,iw,rw_],cw] W fun e w'=>SfRes n init regs codes e∧Mod noF W w':=fun W hW=>
  startFault_any n iw rw_ cw init regs codes cv W (rows_keep0 I.fI hW) (rows_keep0 I.fR hW) (I.fC.keep hW) I.li I.lr I.lc I.lk
 have Hsf:=Lib.hid hsf;clear hsf;have HI:=Lib.hid I;obtain ⟨ia,ib,ic,ei⟩:=rows_slice I.fI;obtain ⟨ra,rb,rc,er⟩:=rows_slice I.fR;obtain ⟨ca,cc,ec,-⟩:=id I.fC;obtain ⟨sa,sc,es,hsl,-⟩:=id I.fS.at_;subst ei er ec es
 have s0:wz.cell? ⟨w.heap.size,0,none⟩=some (.int .i64 n):=by rw[hwz];simp
 have s1:wz.cell? ⟨w.heap.size,1,none⟩=some (.slice ia ib ic):=by rw[hwz];simp
 have s2:wz.cell? ⟨w.heap.size,2,none⟩=some (.slice ra rb rc):=by rw[hwz];simp
 have sb:w.heap.size<wz.heap.size:=by rw[hwz];simp
 have H1:=Lib.hid h1;have Hvast:=Lib.hid hvast;have Hstart:=Lib.hid hstart;have Hnew:=Lib.hid hnew;have Hmz:=Lib.hid hmz;unfold maxLen at hsl;clear h1 hvast hstart hnew hmz I
 go_enter Tryz.func4,Tryz.ntmps4
 go_wp2_with fail
 rw[←hwz];clear hwz;refine H1.out.mono ?_;rintro e w1 ⟨rfl,hm1⟩;have q0:=hm1.cell s0 (fun e=>e);have q1:=hm1.cell s1 (fun e=>e);have q2:=hm1.cell s2 (fun e=>e);have qb:=Nat.lt_of_lt_of_le sb hm1.size;have Hm1:=Lib.hid (Hmz.out.trans0 hm1);clear hm1 s0 s1 s2 H1
 go_wp2_with fail
 refine (Hvast.out w1 Hm1.out).mono ?_;rintro e w2 ⟨⟨kv,rfl⟩,hm2⟩;have u0:=hm2.cell q0 (fun e=>e);have u1:=hm2.cell q1 (fun e=>e);have u2:=hm2.cell q2 (fun e=>e);have ub:=Nat.lt_of_lt_of_le qb hm2.size;have Hm2:=Lib.hid (Hm1.out.trans0 hm2);clear hm2 q0 q1 q2 Hvast
 by_cases hv:0<kv
 ·have hd:decide (0<kv)=true:=by simpa using hv
  go_wp2;go_ret;exact ⟨rfl,Hm2.out⟩
 ·have hd:decide (0<kv)=false:=by simpa using hv
  by_cases hs60:500<script.length
  ·have hd6:decide ((500:Int)<(script.length:Int))=true:=by simp;omega
   go_wp2;go_ret;exact ⟨rfl,Hm2.out⟩
  ·have hd6:decide ((500:Int)<(script.length:Int))=false:=by simp;omega
   go_wp2_with fail
   refine (Hstart.out w2).mono ?_;rintro e w3 ⟨rfl,hm3⟩;have Hm3:=Lib.hid (Hm2.out.trans0 hm3);have v0:=hm3.cell u0 (fun e=>e);have v1:=hm3.cell u1 (fun e=>e);have v2:=hm3.cell u2 (fun e=>e);have vb:=Nat.lt_of_lt_of_le ub hm3.size;clear hm3 u0 u1 u2 Hstart
   go_wp2_with fail
   refine (Hnew.out w3 Hm3.out).mono ?_;rintro e w4 (⟨hns,rfl,hm4⟩|⟨k,rfl,hsh,hb|hg⟩)
   ·have x0:=hm4.cell v0 (fun e=>e);have x1:=hm4.cell v1 (fun e=>e);have x2:=hm4.cell v2 (fun e=>e);have xb:=Nat.lt_of_lt_of_le vb hm4.size;have Hm4:=Lib.hid (Hm3.out.trans0 hm4);have Hns:=Lib.hid hns;clear hm4 hns v0 v1 v2 vb;unfold errV
    go_wp2_with fail
    refine (Hsf.out w4 Hm4.out).mono ?_;rintro e w5 ⟨⟨-,rfl⟩|⟨hs5,-⟩,hm5⟩
    rotate_left
    ·exact absurd hs5 Hns.out
    have Hm5:=Lib.hid (Hm4.out.trans0 hm5);have HE5:=Lib.hid (HI.out.errs.keep Hm5.out);have HEI:=Lib.hid (show ∀W,Mod noF w5 W→ErrIs a W (.iface 241 (.pointer (some (a 1)))) 2 (-1)from fun W hW=>.inr (.inl ⟨1,by decide,rfl,rfl,rfl⟩));clear hm5
    go_wp2_with fail
    refine (faulted_any (v:=.iface 241 (.pointer (some (a 1)))) (c:=2) (p:=(-1)) (HE5.out.keep (by repeat (first|exact Mod.refl _ _|refine Mod.alloc ?_ _|refine Mod.drew ?_|refine Mod.drewN ?_ _))) (HEI.out _ (by repeat (first|exact Mod.refl _ _|refine Mod.alloc ?_ _|refine Mod.drew ?_|refine Mod.drewN ?_ _))) 2 (-1)).mono ?_
    rintro e w6 ⟨rfl,hm6⟩;rw[faultB_self];have Hm6:=Lib.hid ((Hm5.out.trans0 (show Mod noF w5 _ from by repeat (first|exact Mod.refl _ _|refine Mod.alloc ?_ _|refine Mod.drew ?_|refine Mod.drewN ?_ _))).trans0 hm6);clear hm6;go_wp2;go_ret;exact ⟨rfl,Hm6.out⟩
   ·obtain ⟨i,c,hc,hlow,hne,g,rfl,hg,hgc,hm4⟩:=hb;have x0:=hm4.cell v0 (fun e=>e);have x1:=hm4.cell v1 (fun e=>e);have x2:=hm4.cell v2 (fun e=>e);have xb:=Nat.lt_of_lt_of_le vb hm4.size;have Hm4:=Lib.hid (Hm3.out.trans0 hm4);have hF:=codesF_at (codes:=codes) (s:=0) hc hlow hne;rw[Nat.zero_add]at hF
    have h0:=chkR_ge c;have h9:=chkR_le c;generalize hz:(chkR c).1=z at *;have HF:=Lib.hid hF;have hgl:=lt_of_block hgc;have g0:w4.cell? ⟨g,0,none⟩=some (.int .i64 (i:Int)):=(cell_of_heap hgc 0).trans rfl;have g1:w4.cell? ⟨g,1,none⟩=some (errV a (z.toNat - 1)):=(cell_of_heap hgc 1).trans rfl
    have HG0:=Lib.hid g0;have HG1:=Lib.hid g1;have Hsh:=Lib.hid hsh
    have hzp:0<z:=by omega
    clear hm4 hlow hF hz hgc g0 g1 hsh hc hne v0 v1 v2 vb hg
    go_wp2_with fail
    refine (Hsf.out w4 Hm4.out).mono ?_;rintro e w5 ⟨⟨hs5,-⟩|⟨-,rfl⟩,hm5⟩
    ·exact absurd Hsh.out hs5
    rw[HF.out];have Hm5:=Lib.hid (Hm4.out.trans0 hm5);have HE5:=Lib.hid (HI.out.errs.keep Hm5.out)
    have HEI:=Lib.hid (show ∀W,Mod noF w5 W→ErrIs a W (.iface 89 (.pointer (some ⟨g,0,none⟩))) z i from fun W hW=>.inr (.inr ⟨z.toNat - 1,g,by omega,by omega,rfl,Nat.lt_of_lt_of_le hgl (hm5.trans0 hW).size,(hm5.trans0 hW).cell HG0.out (fun e=>e),(hm5.trans0 hW).cell HG1.out (fun e=>e)⟩))
    clear hm5
    go_wp2_with fail
    refine (faulted_any (v:=.iface 89 (.pointer (some ⟨g,0,none⟩))) (c:=z) (p:=i) (HE5.out.keep (by repeat (first|exact Mod.refl _ _|refine Mod.alloc ?_ _|refine Mod.drew ?_|refine Mod.drewN ?_ _))) (HEI.out _ (by repeat (first|exact Mod.refl _ _|refine Mod.alloc ?_ _|refine Mod.drew ?_|refine Mod.drewN ?_ _))) z i).mono ?_
    rintro e w6 ⟨rfl,hm6⟩;rw[faultB_self];have Hm6:=Lib.hid ((Hm5.out.trans0 (show Mod noF w5 _ from by repeat (first|exact Mod.refl _ _|refine Mod.alloc ?_ _|refine Mod.drew ?_|refine Mod.drewN ?_ _))).trans0 hm6);clear hm6;go_wp2;go_ret;exact ⟨rfl,Hm6.out⟩
   ·obtain ⟨cs,X,vs,mv,hcs,hfine,rfl,hP,hm4,hlow,hown⟩:=hg;have x0:=hm4.cell v0 (fun e=>e);have x1:=hm4.cell v1 (fun e=>e);have x2:=hm4.cell v2 (fun e=>e);have xb:=Nat.lt_of_lt_of_le vb hm4.size;have Hm4:=Lib.hid (Hm3.out.trans0 hm4);have Hm34:=Lib.hid hm4
    have hcl:cs.length=codes.length:=by rw[←hcs];simp
    have hF:=codesF_none (r:=codes) (s:=0) (fun j d hjd=>by
     rw[←hcs,List.getElem?_map]at hjd;obtain ⟨c,hc,rfl⟩:=Option.map_eq_some_iff.1 hjd
     exact fine_chk (hfine c (List.mem_of_getElem? hc)))
    have HF:=Lib.hid hF;have Hsh:=Lib.hid hsh;obtain ⟨z1,z2,z3,z4,z5,z6,z7,z8⟩:=hsh;have HP:=Lib.hid hP;have Hlow:=Lib.hid hlow;have Hown:=Lib.hid hown;have Hcs:=Lib.hid hcs;have Hfine:=Lib.hid hfine;have Hz7:=Lib.hid (rows_fine z7);have Hz8:=Lib.hid (rows_fine z8)
    clear hP hlow hown hcs hm4 v0 v1 v2 vb Hnew hfine z7 z8 hF
    go_wp2_with fail
    refine (Hsf.out w4 Hm4.out).mono ?_;rintro e w5 ⟨⟨hs5,-⟩|⟨-,rfl⟩,hm5⟩
    ·exact absurd Hsh.out hs5
    rw[HF.out];obtain ⟨wf,hwf⟩:∃wf,wf=w5.alloc (.cells #[.int .i64 0,.int .i64 (-1)] 56):=⟨_,rfl⟩
    have hmf:Mod noF w4 wf:=by rw[hwf];exact hm5.alloc _
    have HP6:=HP.out.keep0 hmf;have hp5:=HP6.top_at.2.2.2.2.2;have y0:=hmf.cell x0 (fun e=>e);have y1:=hmf.cell x1 (fun e=>e);have y2:=hmf.cell x2 (fun e=>e);have yb:=Nat.lt_of_lt_of_le xb hmf.size;have hm06:=Hm4.out.trans0 hmf;have hC:=rcodes_codes (HI.out.fC.keep hm06) Hcs.out HI.out.cap
    have hnm:=newMachine_le k (.slice ia ib ic) (.slice ra rb rc) (.slice ca codes.length cc) init regs cs cv wf (rows_keep0 HI.out.fI hm06) (rows_keep0 HI.out.fR hm06) hC (by omega) (by omega) (by omega) (by omega) (by omega) (by omega) Hz7.out Hz8.out Hfine.out;have Hnm:=Lib.hid hnm
    have HP6h:=Lib.hid HP6;have Hm3f:=Lib.hid (Hm34.out.trans0 hmf);have u0:=hm5.cell x0 (fun e=>e);have u1:=hm5.cell x1 (fun e=>e);have u2:=hm5.cell x2 (fun e=>e);have ub:=Nat.lt_of_lt_of_le xb hm5.size;clear hnm hC hm06 HP6 hm5 hmf;subst hwf
    go_wp2_with fail
    refine Hnm.out.mono ?_;rintro e w7 ⟨L,rfl,hLc,hM,hB,hft⟩;have hB7:=Mod.below hB
    have D:Duo w3 w7 a X vs mv L (startM k init regs cs) 1:=by
     refine Duo.start (HI.out.errs.keep Hm3.out) Hcs.out (fun l hl x hx=>?_) HP6h.out Hm3f.out Hlow.out Hown.out hM hB7 hft hLc (fun t c hc hn g hg=>?_)
     ·obtain ⟨i,hi⟩:=List.mem_iff_getElem?.1 hl;obtain ⟨_,_,_,hx'⟩:=HI.out.fC;obtain ⟨_,_,_,_,_,hr,_⟩:=hx' i l hi;exact hr.ok x hx
     ·obtain ⟨_,_,_,hx'⟩:=HI.out.fC
      have hi:codes[t]?=some (c.map rawI):=by rw[←Hcs.out,List.getElem?_map,hc];rfl
      obtain ⟨_,_,_,_,_,hr,_⟩:=hx' t _ hi;exact Nat.lt_of_lt_of_le ((rcode_code hr (HI.out.cap t _ hi)).own hn g hg) Hm3.out.size
    generalize startM k init regs cs=m at *;have HD:=Lib.hid D;clear D hM hft hB hB7 hLc u0 u1 u2 y0 y1 y2 x0 x1 x2 ub yb xb hp5 Hnm HP6h Hsf HF
    go_wp2_with (at_builtin;refine wpList_append_script rfl (.tmp 58) (.tmp 59) rfl rfl (.slice sa script.length sc) script rfl (HJ.out.si.keep (Hm3.out.trans0 HD.out.low.mod)) (by omega) ?_;intro v9 w9 hS;have HS:=Lib.hid hS;clear hS)
    have hrun:=prun_any (HD.out.keep0 HS.out.mod).PX (by omega) (HD.out.keep0 HS.out.mod).low HD.out.labs v9 script HS.out.ints HS.out.le (by omega) HJ.out.wd (fun _ b hb hx=>by have:=HS.out.own b hb;have:=HD.out.px.lt hx;omega);have Hrun:=Lib.hid hrun;clear hrun
    first
     |refine Hrun.out.mono ?_
     |(go_wp2_with fail;refine Hrun.out.mono ?_)
    rintro e w10 ⟨rfl,⟨vs2,mv2,U⟩,-,-⟩;have D9:=HD.out.keep0 HS.out.mod;have hlo:=(D9.low.up U).mod
    have hrr:=run_any (D9.ref U) (fun _ _ _ _ _=>rfl) (by omega) (.slice sa script.length sc) script (HI.out.fS.frame0 (Hm3.out.trans0 hlo)) (by omega) HJ.out.wd (fun hne b hb hx=>by have:=HJ.out.lt hne b hb;have:=D9.flow b hx;have:=Hm3.out.size;omega);have HD9:=Lib.hid D9;have HU:=Lib.hid U
    have Hrr:=Lib.hid hrr;clear D9 U hrr hlo
    go_wp2_with fail
    refine Hrr.out.mono ?_;rintro e w11 ⟨rfl,L2,V⟩;have D2:=HD9.out.both HU.out V;have e0:=V.top.1;have has:=asModel_any D2 (by omega);rw[e0]at has;have Has:=Lib.hid has;have HD2:=Lib.hid D2;clear D2 V e0 has
    go_wp2_with fail
    refine Has.out.mono ?_;rintro e w12 ⟨rfl,hm12⟩;have Hf:=Lib.hid ((Hm3.out.trans0 HD2.out.low.mod).trans0 hm12);clear hm12;go_wp2;go_ret;exact ⟨rfl,Hf.out⟩
end
section
open Go.RowKit Qs Qh
theorem script_of{w:World}{a:Option Addr}{len cap:Nat}{z:List Int}(h:IsRow .i64 w a len cap z) :
  ∃l,IntsAt w (.slice a len cap) l∧ScriptIn w (.slice a len cap) l∧(∀x∈l,-9223372036854775808≤x∧x≤9223372036854775807)∧(l≠[]→∀b,(Value.slice a len cap).ownBlock=some b→b<w.heap.size):=by
 obtain ⟨l,h1,h2,h3⟩:=h.ints;refine ⟨l,h1,?_,h2,h3⟩
 rcases h with ⟨rfl,rfl,rfl,rfl⟩|⟨x,rfl,hl,hm,hz,hcell,hwf⟩
 ·obtain ⟨a',c',e,-,-⟩:=h1.at_;simp only[Value.slice.injEq]at e;exact .inl ⟨rfl,List.eq_nil_of_length_eq_zero e.2.1.symm⟩
 ·obtain ⟨a',c',e,-,-⟩:=id h1.at_;simp only[Value.slice.injEq]at e;exact .inr ⟨x,cap,by rw[e.2.1],h1⟩
theorem machRuns_any(a0:Int)(iw0 rw0:Value)(zi0 zr0:List (List Int))(a1:Option Addr)(len1 cap1:Nat)(z1:List (List RI))(cv1:Nat→Value)(a2:Option Addr)(len2 cap2:Nat)(z2:List Int)(w:World)
  (h0:StartIn w a0 iw0 rw0 zi0 zr0) (h1:InsRows w (.slice a1 len1 cap1) z1 cv1) (h2:IsRow .i64 w a2 len2 cap2 z2) (h5:∃a,ErrsAt w a) :
  Calls Tryz.prog 4 #[.agg #[.int .i64 a0,iw0,rw0],.slice a1 len1 cap1,.slice a2 len2 cap2] w fun e w'=>e=.returned (.bool true)∧Below w.heap.size w w':=by
 obtain ⟨a,E⟩:=h5;obtain ⟨l,hl,hs,hw,hlt⟩:=script_of h2;have I:LawIn w a iw0 rw0 (.slice a1 len1 cap1) (.slice a2 len2 cap2) zi0 zr0 z1 cv1 l:=⟨E,h0.1.1,h0.2.1,h1.1,hl,h0.1.2,h0.2.2,h1.2.1,h1.2.2.1,h1.2.2.2⟩
 exact (machRuns_walk a0 iw0 rw0 _ _ zi0 zr0 z1 cv1 l w ⟨I,hs,hw,hlt⟩).mono fun e w' h=>⟨h.1,h.2.toBelow⟩
end
end Go.Proofs.YtciaficoeajeaaaGreatDoor
