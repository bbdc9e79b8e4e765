/- Texts that belong together, joined. -/
import Derived.Test.YtciaficoeajeaaaGreatDoorMSm8
import Derived.Test.YtciaficoeajeaaaGreatDoorMSPmT1
import Derived.Test.YtciaficoeajeaaaGreatDoorMSPmT2
import Derived.Test.YtciaficoeajeaaaGreatDoorMSPmT3
import Derived.Test.YtciaficoeajeaaaGreatDoorMSPmT4
import Derived.Test.YtciaficoeajeaaaGreatDoorMSPmT5
import Derived.Test.YtciaficoeajeaaaGreatDoorMSPmT6
import Derived.Test.YtciaficoeajeaaaGreatDoorMSm9
import Derived.Test.YtciaficoeajeaaaGreatDoorMSPmS2
import Derived.Test.YtciaficoeajeaaaGreatDoorMSPmS3
import Derived.Test.YtciaficoeajeaaaGreatDoorMSPmS6
import Derived.Test.YtciaficoeajeaaaGreatDoorMSm5
import Derived.Test.YtciaficoeajeaaaGreatDoorMSm7
import Derived.Test.YtciaficoeajeaaaGreatDoorMSm6
import Derived.Test.YtciaficoeajeaaaGreatDoorMSNewWalk2
import Derived.Test.YtciaficoeajeaaaGreatDoorMSMAs
import Derived.Deep.QuietTactic
import Derived.BigQuiet
import Derived.Outline
import Derived.Test.YtciaficoeajeaaaGreatDoorMSm3
set_option linter.unusedVariables false
set_option linter.unusedSimpArgs false
set_option linter.unusedSectionVars false
set_option maxHeartbeats 16000000
set_option maxRecDepth 100000
namespace Go.Proofs.YtciaficoeajeaaaGreatDoor
section
open Go.RowKit Qs Qh
variable {w w1 w2 w' b0:World}{X:XB}{vs vs':List Value}{mv mv':Value}{m m':M}{N:Int}{a:Nat→Addr}
theorem okT_setPc(ot:OkT N m){t:Nat}{h:Thr}(hh:m.T[t]?=some h){p:Nat}(hp:p≤h.code.length):OkT N (m.setPc t p):=by
 have e:m.setPc t p = {m with T:=m.T.set t {h with pc:=p}}:=by unfold M.setPc;rw[modify_get _ hh]
 rw[e]
 have hT:∀(u:Nat) k,(m.T.set t {h with pc:=p})[u]?=some k→k = {h with pc:=p}∨m.T[u]?=some k:=fun u k hk=>by
  rw[List.getElem?_set]at hk
  split at hk
  ·split at hk
   ·cases hk;exact .inl rfl
   ·cases hk
  ·exact .inr hk
 refine ⟨by simpa using ot.len,by simpa using ot.t1,fun u k hk=>?_,fun u k hk=>?_,ot.marks,ot.f0⟩
 ·rcases hT u k hk with rfl|hk
  ·exact ot.regs t h hh
  ·exact ot.regs u k hk
 ·rcases hT u k hk with rfl|hk
  ·exact ⟨hp,(ot.code t h hh).2⟩
  ·exact ot.code u k hk
theorem okM_setPc(om:OkM N m)(t p:Nat):OkM N (m.setPc t p):=⟨om.cells1,om.cells,om.words,om.times,om.waits,om.wlen,om.wval,om.N0⟩
def PStTold(w:World)(X:XB)(vs:List Value)(mv:Value)(m:M)(a:Nat→Addr)(t:Nat):Prop:=
 Calls Tryz.prog 14 #[.pointer (some ⟨X.bX,0,none⟩),.int .i64 t] w fun e w'=>e=.returned (errOf' a (m.step t).2)∧∃vs' mv',XUp w X vs mv m w' (m.step t).1 vs' mv'
theorem ptold{t:Nat}{h:Thr}{x:Instr}(hh:m.T[t]?=some h)(hx:h.code[h.pc]?=some x)(h20:x.op≠20){m':M}(he:(m.setPc t (h.pc+1)).exec t x=m')
  (hc:Calls Tryz.prog 14 #[.pointer (some ⟨X.bX,0,none⟩),.int .i64 t] w fun e w'=>e=.returned .nilIface∧∃vs' mv',XUp w X vs mv m w' m' vs' mv'):PStTold w X vs mv m a t:=by
 unfold PStTold;rw[step_eq hh hx h20,he];exact hc
theorem pst_any(H:PX w X vs mv m N)(hN:N≤900000000)(L:XLow b0 w a X vs mv)(hLab:LabsOk m){t:Nat}(ht:t<m.T.length) :
  Calls Tryz.prog 14 #[.pointer (some ⟨X.bX,0,none⟩),.int .i64 t] w fun e w'=>e=.returned (errOf' a (m.step t).2)∧∃vs' mv',XUp w X vs mv m w' (m.step t).1 vs' mv':=by
 show PStTold w X vs mv m a t;obtain ⟨h,hh⟩:∃h,m.T[t]?=some h:=⟨_,List.getElem?_eq_getElem ht⟩
 cases hx:h.code[h.pc]? with
 |none=>
  have hs:=Qh.step_end hh hx
  have hd:m.done t=true:=by unfold M.done;rw[thr_of hh,hx]
  unfold PStTold;rw[hs];refine (pst_done H L ht hd).mono ?_;rintro e w' ⟨rfl,hm⟩;exact ⟨rfl,vs,mv,XUp.quiet H.p hm⟩
 |some x=>
  by_cases h20:x.op=20
  ·have hs:=step_stop hh hx h20
   have hd:m.done t=true:=by unfold M.done;rw[thr_of hh,hx];simp[h20]
   unfold PStTold;rw[hs];refine (pst_done H L ht hd).mono ?_;rintro e w' ⟨rfl,hm⟩;exact ⟨rfl,vs,mv,XUp.quiet H.p hm⟩
  ·have hmem:x∈h.code:=List.mem_of_getElem? hx;have hto:=hLab t h hh x hmem;have hco:=(H.ot.code t h hh).2;have hi:=hco.ins x hmem;have hlab:=hco.lab x hmem;have hlt:h.pc<h.code.length:=(List.getElem?_eq_some_iff.1 hx).1;have h8:=(H.ot.regs t h hh).1
   have hP:∀W,XUp w X vs mv m W (m.setPc t (h.pc+1)) vs mv→PX W X vs mv (m.setPc t (h.pc+1)) N:=fun W U=>⟨U.rep,okM_setPc H.om _ _,okT_setPc H.ot hh (by omega)⟩;have hh1:(m.setPc t (h.pc+1)).T[t]?=some {h with pc:=h.pc+1}:=setPc_T hh _
   have ht1:t<(m.setPc t (h.pc+1)).T.length:=(List.getElem?_eq_some_iff.1 hh1).1
   have hN1:N≤1000000000:=by omega
   obtain ⟨op,A,B,C,to⟩:=x
   rcases op_cases op with rfl|rfl|rfl|rfl|rfl|rfl|rfl|rfl|rfl|rfl|rfl|rfl|rfl|rfl|rfl|rfl|rfl|rfl|rfl|rfl|hbig
   ·obtain ⟨h1,hB⟩:=hi;obtain ⟨ra,rfl,ha⟩:=reg_nat h1;exact ptold hh hx h20 (exec_const hh) (pst_const H hN L ht hh (by omega) hx)
   ·obtain ⟨h1,h2⟩:=hi;obtain ⟨ra,rfl,ha⟩:=reg_nat h1;obtain ⟨rb,rfl,hb⟩:=reg_nat h2;exact ptold hh hx h20 (exec_move hh) (pst_move H hN L ht hh (by omega) (by omega) hx)
   ·obtain ⟨h1,h2,h3⟩:=hi;obtain ⟨ra,rfl,ha⟩:=reg_nat h1;obtain ⟨rb,rfl,hb⟩:=reg_nat h2;obtain ⟨rc,rfl,hc⟩:=reg_nat h3;exact ptold hh hx h20 (exec_add hh) (pst_add H hN L ht hh (by omega) (by omega) (by omega) hx)
   ·obtain ⟨h1,h2,h3⟩:=hi;obtain ⟨ra,rfl,ha⟩:=reg_nat h1;obtain ⟨rb,rfl,hb⟩:=reg_nat h2;obtain ⟨rc,rfl,hc⟩:=reg_nat h3;exact ptold hh hx h20 (exec_sub hh) (pst_sub H hN L ht hh (by omega) (by omega) (by omega) hx)
   ·obtain ⟨h1,h2,h3⟩:=hi;obtain ⟨ra,rfl,ha⟩:=reg_nat h1;obtain ⟨rb,rfl,hb⟩:=reg_nat h2;obtain ⟨rc,rfl,hc⟩:=reg_nat h3;exact ptold hh hx h20 (exec_and hh) (pst_and H hN L ht hh (by omega) (by omega) (by omega) hx)
   ·obtain ⟨h1,h2,h3⟩:=hi;obtain ⟨ra,rfl,ha⟩:=reg_nat h1;obtain ⟨rb,rfl,hb⟩:=reg_nat h2;obtain ⟨rc,rfl,hc⟩:=reg_nat h3;exact ptold hh hx h20 (exec_xor hh) (pst_xor H hN L ht hh (by omega) (by omega) (by omega) hx)
   ·obtain ⟨h1,h2,h3⟩:=hi;obtain ⟨ra,rfl,ha⟩:=reg_nat h1;obtain ⟨rb,rfl,hb⟩:=reg_nat h2;obtain ⟨rc,rfl,hc⟩:=reg_nat h3
    cases hn:m.names (h.regs.getD rb 0)with
    |none=>exact ptold hh hx h20 (by rw[exec_load_none hh hn]) (pst_touch H hN L ht hh h20 rfl rfl rfl rfl rfl rfl rfl rfl rfl rfl rfl (fun W U=>ptouch_load_none (hP W U) hN1 (L.up U) ht1 hh1 h8 (by omega) (by omega) (by omega) hn) hx)
    |some r=>exact ptold hh hx h20 (by rw[exec_load_ok hh (rc:=r.1) (rg:=r.2) hn];rfl) (pst_touch H hN L ht hh h20 rfl rfl rfl rfl rfl rfl rfl rfl rfl rfl rfl (fun W U=>ptouch_load_ok (hP W U) hN1 (L.up U) ht1 hh1 h8 (by omega) (by omega) (by omega) (c:=r.1) (g:=r.2) hn) hx)
   ·obtain ⟨h1,h2,h3⟩:=hi;obtain ⟨ra,rfl,ha⟩:=reg_nat h1;obtain ⟨rb,rfl,hb⟩:=reg_nat h2;obtain ⟨rc,rfl,hc⟩:=reg_nat h3
    cases hn:m.names (h.regs.getD ra 0)with
    |none=>exact ptold hh hx h20 (by rw[exec_store_none hh hn]) (pst_touch H hN L ht hh h20 rfl rfl rfl rfl rfl rfl rfl rfl rfl rfl rfl (fun W U=>ptouch_store_none (hP W U) hN1 (L.up U) ht1 hh1 h8 (by omega) (by omega) (by omega) hn) hx)
    |some r=>
     obtain ⟨l,hl⟩:∃l,m.waits[t]?=some l:=⟨_,List.getElem?_eq_getElem (by rw[H.ot.len];exact ht)⟩;have h88:=H.om.wlen t l hl
     by_cases h9:l.length<8
     ·exact ptold hh hx h20 (by rw[exec_store_ok hh (rc:=r.1) (rg:=r.2) hn hl h9]) (pst_touch H hN L ht hh h20 rfl rfl rfl rfl rfl rfl rfl rfl rfl rfl rfl (fun W U=>ptouch_store_ok (hP W U) hN1 (L.up U) ht1 hh1 h8 (by omega) (by omega) (by omega) (c:=r.1) (g:=r.2) hn hl h9) hx)
     ·obtain ⟨y,q,rfl⟩:∃y q,l=y :: q:=by
       cases l with
       |nil=>simp at h9
       |cons y q=>exact ⟨y,q,rfl⟩
      have h7:q.length=7:=by simp at h88 h9;omega
      cases hin:hereIn m.cells y.c y.g with
      |true=>exact ptold hh hx h20 (by rw[exec_store_full hh (rc:=r.1) (rg:=r.2) hn hl h7 hin];rfl) (pst_touch H hN L ht hh h20 rfl rfl rfl rfl rfl rfl rfl rfl rfl rfl rfl (fun W U=>ptouch_store_full (hP W U) hN1 (L.up U) ht1 hh1 h8 (by omega) (by omega) (by omega) (c:=r.1) (g:=r.2) hn hl h7 hin) hx)
      |false=>exact ptold hh hx h20 (by rw[exec_store_full_bad hh (rc:=r.1) (rg:=r.2) hn hl h7 hin];rfl) (pst_touch H hN L ht hh h20 rfl rfl rfl rfl rfl rfl rfl rfl rfl rfl rfl (fun W U=>ptouch_store_full_bad (hP W U) hN1 (L.up U) ht1 hh1 h8 (by omega) (by omega) (by omega) (c:=r.1) (g:=r.2) hn hl h7 hin) hx)
   ·obtain ⟨h1,h2,h3⟩:=hi;obtain ⟨ra,rfl,ha⟩:=reg_nat h1;obtain ⟨rb,rfl,hb⟩:=reg_nat h2;obtain ⟨rc,rfl,hc⟩:=reg_nat h3
    cases hn:m.names (h.regs.getD rb 0)with
    |none=>exact ptold hh hx h20 (by rw[exec_swap_none hh hn]) (pst_touch H hN L ht hh h20 rfl rfl rfl rfl rfl rfl rfl rfl rfl rfl rfl (fun W U=>ptouch_swap_none (hP W U) hN1 (L.up U) ht1 hh1 h8 (by omega) (by omega) (by omega) hn) hx)
    |some r=>
     obtain ⟨kc,kg⟩:=r;obtain ⟨k,rfl,hk⟩:=names_nat hn;exact ptold hh hx h20 (by rw[exec_swap_ok hh hn];rfl) (pst_touch H hN L ht hh h20 rfl rfl rfl rfl rfl rfl rfl rfl rfl rfl rfl (fun W U=>ptouch_swap_ok (hP W U) hN1 (L.up U) ht1 hh1 h8 (by omega) (by omega) (by omega) hn) hx)
   ·obtain ⟨h1,h2,h3⟩:=hi;obtain ⟨ra,rfl,ha⟩:=reg_nat h1;obtain ⟨rb,rfl,hb⟩:=reg_nat h2;obtain ⟨rc,rfl,hc⟩:=reg_nat h3
    cases hn:m.names (h.regs.getD ra 0)with
    |none=>exact ptold hh hx h20 (by rw[exec_cas_none hh hn]) (pst_touch H hN L ht hh h20 rfl rfl rfl rfl rfl rfl rfl rfl rfl rfl rfl (fun W U=>ptouch_cas_none (hP W U) hN1 (L.up U) ht1 hh1 h8 (by omega) (by omega) (by omega) hn) hx)
    |some r=>
     obtain ⟨kc,kg⟩:=r;obtain ⟨k,rfl,hk⟩:=names_nat hn;exact ptold hh hx h20 (by rw[exec_cas_ok hh hn];rfl) (pst_touch H hN L ht hh h20 rfl rfl rfl rfl rfl rfl rfl rfl rfl rfl rfl (fun W U=>ptouch_cas_ok (hP W U) hN1 (L.up U) ht1 hh1 h8 (by omega) (by omega) (by omega) hn) hx)
   ·obtain ⟨ra,rfl,ha⟩:=reg_nat hi
    cases hal:allocAt m.cells 0 with
    |none=>exact ptold hh hx h20 (by rw[exec_alloc_none hal]) (pst_touch H hN L ht hh h20 rfl rfl rfl rfl rfl rfl rfl rfl rfl rfl rfl (fun W U=>ptouch_alloc_none (hP W U) hN1 (L.up U) ht1 hh1 h8 (by omega) hal) hx)
    |some r=>exact ptold hh hx h20 (by rw[exec_alloc_ok (i:=r.1) (n:=r.2) hal]) (pst_touch H hN L ht hh h20 rfl rfl rfl rfl rfl rfl rfl rfl rfl rfl rfl (fun W U=>ptouch_alloc_ok (hP W U) hN1 (L.up U) ht1 hh1 h8 (by omega) (i:=r.1) (n:=r.2) hal) hx)
   ·obtain ⟨ra,rfl,ha⟩:=reg_nat hi
    cases hn:m.names (h.regs.getD ra 0)with
    |none=>exact ptold hh hx h20 (by rw[exec_free_none hh hn]) (pst_touch H hN L ht hh h20 rfl rfl rfl rfl rfl rfl rfl rfl rfl rfl rfl (fun W U=>ptouch_free_none (hP W U) hN1 (L.up U) ht1 hh1 h8 (by omega) hn) hx)
    |some r=>
     obtain ⟨kc,kg⟩:=r;obtain ⟨k,rfl,hk⟩:=names_nat hn;exact ptold hh hx h20 (by rw[exec_free_ok hh hn];rfl) (pst_touch H hN L ht hh h20 rfl rfl rfl rfl rfl rfl rfl rfl rfl rfl rfl (fun W U=>ptouch_free_ok (hP W U) hN1 (L.up U) ht1 hh1 h8 (by omega) hn) hx)
   ·exact ptold hh hx h20 exec_fence (pst_touch H hN L ht hh h20 rfl rfl rfl rfl rfl rfl rfl rfl rfl rfl rfl (fun W U=>ptouch_fence (hP W U) hN1 (L.up U) ht1 hh1 h8) hx)
   ·exact ptold hh hx h20 (by rw[exec_force];simp[M.setPc]) (pst_touch H hN L ht hh h20 rfl rfl rfl rfl rfl rfl rfl rfl rfl rfl rfl (fun W U=>ptouch_force (hP W U) hN (L.up U) ht1 hh1 h8) hx)
   ·obtain ⟨ra,rfl,ha⟩:=reg_nat hi;obtain ⟨i,hi⟩:=Option.isSome_iff_exists.1 (hlab (.inl rfl))
    by_cases hz:h.regs.getD ra 0=0
    ·exact ptold hh hx h20 (exec_zero_yes hh hi hz) (pst_zero_yes H hN L ht hh (by omega) hz hi hto hx)
    ·exact ptold hh hx h20 (exec_zero_no hh hz) (pst_zero_no H hN L ht hh (by omega) hz hx)
   ·obtain ⟨h1,h2⟩:=hi;obtain ⟨ra,rfl,ha⟩:=reg_nat h1;obtain ⟨rb,rfl,hb⟩:=reg_nat h2;obtain ⟨i,hi⟩:=Option.isSome_iff_exists.1 (hlab (.inr (.inl rfl)))
    by_cases hz:h.regs.getD ra 0=h.regs.getD rb 0
    ·exact ptold hh hx h20 (exec_same_yes hh hi hz) (pst_same_yes H hN L ht hh (by omega) (by omega) hz hi hto hx)
    ·exact ptold hh hx h20 (exec_same_no hh hz) (pst_same_no H hN L ht hh (by omega) (by omega) hz hx)
   ·obtain ⟨i,hi⟩:=Option.isSome_iff_exists.1 (hlab (.inr (.inr rfl)));exact ptold hh hx h20 (exec_goto hh hi) (pst_goto H hN L ht hh hi hto hx)
   ·exact ptold hh hx h20 exec_label (pst_touch H hN L ht hh h20 rfl rfl rfl rfl rfl rfl rfl rfl rfl rfl rfl (fun W U=>ptouch_label (hP W U) hN1 (L.up U) ht1 hh1 h8) hx)
   ·obtain ⟨ra,rfl,ha⟩:=reg_nat hi
    by_cases h5:m.marks.length<500
    ·exact ptold hh hx h20 (exec_mark_ok hh h5) (pst_mark H hN L ht hh (by omega) h5 hx)
    ·exact ptold hh hx h20 (exec_mark_full h5) (pst_mark_full H hN L ht hh (by omega) h5 hx)
   ·obtain ⟨ra,rfl,ha⟩:=reg_nat hi
    by_cases hz:h.regs.getD ra 0=0
    ·exact ptold hh hx h20 (by rw[exec_need hh];unfold needM;rw[if_pos hz]) (pst_need_yes H hN L ht hh (by omega) hz hx)
    ·exact ptold hh hx h20 (by rw[exec_need hh];unfold needM;rw[if_neg hz]) (pst_need_no H hN L ht hh (by omega) hz hx)
   ·have h21:¬op=20:=h20;have:op≤20:=insOk_le hi;omega
end
section
open Go.RowKit Qs Qh
variable {n:Nat}{init regs:List (List Int)}{codes:List (List Instr)}
theorem startM_okM(h1:1≤n)(hn:n≤64)(hc6:codes.length≤6)(hi:RowsFine 4 init):OkM 1 (startM n init regs codes):=by
 have:=preM_ok (i:=init.length) h1 hn hc6 hi;exact ⟨this.cells1,this.cells,this.words,this.times,this.waits,this.wlen,this.wval,this.N0⟩
theorem startM_labs{raw:List (List RI)}(hcs:codes.map (fun c=>c.map rawI)=raw)(ho:∀l∈raw,∀x∈l,x.to.size≤maxLen):LabsOk (startM n init regs codes):=by
 intro t x hx y hy;obtain ⟨c,hc,rfl⟩:=startM_T' hx
 have h1:c.map rawI∈raw:=by rw[←hcs];exact List.mem_map.2 ⟨c,List.mem_of_getElem? hc,rfl⟩
 have:=ho _ h1 (rawI y) (List.mem_map.2 ⟨y,hy,rfl⟩)
 simpa[rawI,ByteArray.size]using this
theorem rawI_inj{x y:Instr}(hx:x.op<21)(hy:y.op<21)(h:rawI x=rawI y):x=y:=by
 obtain ⟨o1,a1,b1,c1,t1⟩:=x;obtain ⟨o2,a2,b2,c2,t2⟩:=y;unfold rawI at h;simp only[RI.mk.injEq,ByteArray.mk.injEq]at h;obtain ⟨e1,rfl,rfl,rfl,e5⟩:=h;have:=opStr_inj o1 hx o2 hy e1;subst this
 have e:t1=t2:=by have:=congrArg Array.toList e5;simpa using this
 rw[e]
theorem insFine_op{x:Instr}{c:List Instr}(h:CodeFine c)(hx:x∈c):x.op<21:=by
 have:=insOk_le (h.ok.ins x hx);omega
def oneC:List Instr:=[⟨0,0,7,0,[]⟩,⟨18,0,0,0,[]⟩]
theorem one_codes{cs:List (List Instr)}(h:cs.map (fun c=>c.map rawI)=[oneC.map rawI])(hf:∀c∈cs,CodeFine c):cs=[oneC]:=by
 obtain ⟨c,rfl⟩:=List.length_eq_one_iff.1 (show cs.length=1 by have:=congrArg List.length h;simpa using this);simp only[List.map_cons,List.map_nil,List.cons.injEq,and_true]at h;have hc:=hf c (by simp)
 rcases c with _|⟨x,_|⟨y,_|⟨z,r⟩⟩⟩
 ·simp[oneC]at h
 ·simp[oneC]at h
 ·simp only[oneC,List.map_cons,List.map_nil,List.cons.injEq,and_true]at h;have hx:=rawI_inj (insFine_op hc (by simp)) (by decide) h.1;have hy:=rawI_inj (insFine_op hc (by simp)) (by decide) h.2;rw[hx,hy];rfl
 ·simp[oneC]at h
def oneM0:M:=⟨[⟨[0,0,0,0],0,false⟩],[[]],[⟨oneC,[0,0,0,0,0,0,0,0],0⟩],[],0⟩
def oneM1:M:=⟨[⟨[0,0,0,0],0,false⟩],[[]],[⟨oneC,[7,0,0,0,0,0,0,0],1⟩],[],0⟩
def oneM2:M:=⟨[⟨[0,0,0,0],0,false⟩],[[]],[⟨oneC,[7,0,0,0,0,0,0,0],2⟩],[(0,7)],0⟩
theorem one_fine:CodeFine oneC:=codeFine_of (by decide +kernel)
theorem oneM0_eq:startM 1 [] [] [oneC]=oneM0:=rfl
theorem one_step0:oneM0.step 0=(oneM1,0):=rfl
theorem one_step1:oneM1.step 0=(oneM2,0):=rfl
theorem one_step2:oneM2.step 0=(oneM2,9):=rfl
theorem one_okM:OkM 1 oneM0∧OkM 1 oneM1∧OkM 1 oneM2:=by
 have h:=startM_okM (n:=1) (init:=[]) (regs:=[]) (codes:=[oneC]) (by decide) (by decide) (by decide) (fun l h=>by simp at h);rw[oneM0_eq]at h;exact ⟨h,⟨h.cells1,h.cells,h.words,h.times,h.waits,h.wlen,h.wval,h.N0⟩,⟨h.cells1,h.cells,h.words,h.times,h.waits,h.wlen,h.wval,h.N0⟩⟩
theorem one_okT:OkT 1 oneM0∧OkT 1 oneM1∧OkT 1 oneM2:=by
 have hk:∀ {r:List Int} {p:Nat} {mk:List (Int × Int)},r.length=8→(∀v∈r,isWord v=true)→p≤2→mk.length≤500→OkT 1 ⟨[⟨[0,0,0,0],0,false⟩],[[]],[⟨oneC,r,p⟩],mk,0⟩:=fun hr hw hp hm=>by
  refine ⟨rfl,Nat.le_refl _,fun t h hh=>?_,fun t h hh=>?_,hm,⟨Int.le_refl _,(by decide:(0:Int)≤1)⟩⟩
  ·match t,hh with
   |0,hh=>cases hh;exact ⟨hr,hw⟩
   |t+1,hh=>simp at hh
  ·match t,hh with
   |0,hh=>cases hh;exact ⟨hp,one_fine.ok⟩
   |t+1,hh=>simp at hh
 exact ⟨hk rfl (by decide) (by decide) (by decide),hk rfl (by decide) (by decide) (by decide),hk rfl (by decide) (by decide) (by decide)⟩
theorem one_labs:LabsOk oneM0∧LabsOk oneM1∧LabsOk oneM2:=by
 have hk:∀ {r:List Int} {p:Nat} {mk:List (Int × Int)},LabsOk ⟨[⟨[0,0,0,0],0,false⟩],[[]],[⟨oneC,r,p⟩],mk,0⟩:=fun {r p mk} t h hh x hx=>by
  match t,hh with
  |0,hh=>
   cases hh;simp only[oneC,List.mem_cons,List.not_mem_nil,or_false]at hx
   rcases hx with rfl|rfl <;> exact Nat.zero_le _
  |t+1,hh=>simp at hh
 exact ⟨hk,hk,hk⟩
theorem one_chk:(chkR (oneC.map rawI)).1=0:=by decide +kernel
theorem lawOne_any{w:World}{a:Nat→Addr}(E:ErrsAt w a):Calls Tryz.prog 8 #[] w fun e w'=>e=.returned (.bool true)∧Mod noF w w':=by
 obtain ⟨w1,hw1⟩:∃w1,w1=(w.alloc (.cells #[.string ⟨#[99,111,110,115,116]⟩,.int .i64 0,.int .i64 7,.int .i64 0,.string ⟨#[]⟩,.string ⟨#[109,97,114,107]⟩,.int .i64 0,.int .i64 0,.int .i64 0,.string ⟨#[]⟩] 73)).alloc (.cells #[.slice (some ⟨w.heap.size,0,none⟩) 2 2] 46):=⟨_,rfl⟩
 have hm1:Mod noF w w1:=by rw[hw1];exact ((Mod.refl noF w).alloc _).alloc _
 have c0:∀j v,(#[Value.string ⟨#[99,111,110,115,116]⟩,.int .i64 0,.int .i64 7,.int .i64 0,.string ⟨#[]⟩,.string ⟨#[109,97,114,107]⟩,.int .i64 0,.int .i64 0,.int .i64 0,.string ⟨#[]⟩]:Array Value)[j]?=some v→w1.cell? ⟨w.heap.size,j,none⟩=some v:=fun j v hv=>by
  have hh:w1.heap[w.heap.size]?=some (.cells #[.string ⟨#[99,111,110,115,116]⟩,.int .i64 0,.int .i64 7,.int .i64 0,.string ⟨#[]⟩,.string ⟨#[109,97,114,107]⟩,.int .i64 0,.int .i64 0,.int .i64 0,.string ⟨#[]⟩] 73 (0,0)):=by
   rw[hw1];exact ((Mod.refl noF _).alloc _).heap (heap_alloc_new w _) (fun e=>e)
  rw[cell_of_heap hh];exact hv
 have c1:w1.cell? ⟨w.heap.size+1,0,none⟩=some (.slice (some ⟨w.heap.size,0,none⟩) 2 2):=by rw[hw1];simp
 have hs1:w1.heap.size=w.heap.size+2:=by rw[hw1];simp
 have hRC:RCode w1 (.slice (some ⟨w.heap.size,0,none⟩) 2 2) (oneC.map rawI):=by
  refine ⟨⟨_,_,rfl,fun i x hx=>?_⟩,fun x hx=>?_⟩
  ·match i,hx with
   |0,hx=>cases hx;exact ⟨_,_,rfl,by omega,c0 0 _ rfl,c0 1 _ rfl,c0 2 _ rfl,c0 3 _ rfl,c0 4 _ rfl⟩
   |1,hx=>cases hx;exact ⟨_,_,rfl,by omega,c0 5 _ rfl,c0 6 _ rfl,c0 7 _ rfl,c0 8 _ rfl,c0 9 _ rfl⟩
   |i+2,hx=>simp[oneC]at hx
  ·simp only[oneC,List.map_cons,List.map_nil,List.mem_cons,List.not_mem_nil,or_false]at hx
   rcases hx with rfl|rfl <;> exact Nat.zero_le _
 have hRCs:RCodesAt w1 (.slice (some ⟨w.heap.size+1,0,none⟩) 1 1) [oneC.map rawI] (fun _=>.slice (some ⟨w.heap.size,0,none⟩) 2 2):=by
  refine ⟨_,_,rfl,fun i l hi=>?_⟩
  match i,hi with
  |0,hi=>cases hi;exact ⟨_,_,rfl,by omega,c1,hRC,trivial⟩
  |i+1,hi=>simp at hi
 have hnil:RowsAt0 w1 (.slice none 0 0) []:=⟨none,0,rfl,fun i l h=>by simp at h⟩
 have hnew:=pnew_any 1 (.slice none 0 0) (.slice none 0 0) (.slice (some ⟨w.heap.size+1,0,none⟩) 1 1) [] [] [oneC.map rawI] _ w1 (E.keep hm1) hnil hnil hRCs (fun l hl=>by simp at hl;rw[hl];show 2≤maxLen;unfold maxLen;omega);have Hnew:=Lib.hid hnew;have Hm1:=Lib.hid hm1;have HE1:=Lib.hid (E.keep hm1)
 clear hnew hm1 hRC hRCs hnil c0 c1 hs1 E
 go_enter Tryz.func8,Tryz.ntmps8
 go_wp2_with fail
 rw[←hw1];clear hw1;refine Hnew.out.mono ?_;rintro e w2 (⟨hs,-⟩|⟨k,hk,-,hb|hg⟩)
 ·exact absurd (show ShapeR 1 [] [] [oneC.map rawI]from ⟨by decide,by decide,by decide,by decide,by decide,by decide,rfl,rfl⟩) hs
 ·obtain ⟨i,c,hc,-,hne,-⟩:=hb
  match i,hc with
  |0,hc=>cases hc;exact absurd one_chk hne
  |i+1,hc=>simp at hc
 ·obtain ⟨cs,X,vs,mv,hcs,hf,rfl,hP,hm2,hlow,-⟩:=hg;obtain rfl:=one_codes hcs hf
  obtain rfl:k=1:=by omega
  rw[oneM0_eq]at hP;have L0:XLow w1 w2 a X vs mv:=⟨HE1.out,hm2,hlow⟩;have h0:=pst_any (t:=0) ⟨hP,one_okM.1,one_okT.1⟩ (by decide) L0 one_labs.1 (by decide);rw[one_step0]at h0;have b0:=hP.top_at.2.2.2.2.2;have H0:=Lib.hid h0;have HL0:=Lib.hid L0;clear h0 L0 hP hm2 hlow hcs hf hk Hnew
  go_wp2_with fail
  refine H0.out.mono ?_;rintro e w3 ⟨rfl,vs1,mv1,U1⟩;have L1:=HL0.out.up U1;have h1:=pst_any (t:=0) ⟨U1.rep,one_okM.2.1,one_okT.2.1⟩ (by decide) L1 one_labs.2.1 (by decide);rw[one_step1]at h1;have H1:=Lib.hid h1;have HL1:=Lib.hid L1;rw[show errOf' a ((oneM1,(0:Int)).2)=.nilIface from rfl]
  clear h1 L1 U1 H0 HL0
  go_wp2_with fail
  refine H1.out.mono ?_;rintro e w4 ⟨rfl,vs2,mv2,U2⟩;have L2:=HL1.out.up U2;have h2:=pst_any (t:=0) ⟨U2.rep,one_okM.2.2,one_okT.2.2⟩ (by decide) L2 one_labs.2.2 (by decide);rw[one_step2]at h2;have H2:=Lib.hid h2;have HL2:=Lib.hid L2;rw[show errOf' a ((oneM2,(0:Int)).2)=.nilIface from rfl]
  clear h2 L2 U2 H1 HL1
  go_wp2_with fail
  refine H2.out.mono ?_;rintro e w5 ⟨rfl,vs3,mv3,U3⟩;have L3:=HL2.out.up U3;have hcd:=coded_self L3.E 9 (by decide) (by decide);have X3:PX w5 X vs3 mv3 oneM2 1:=⟨U3.rep,one_okM.2.2,one_okT.2.2⟩;have HX3:=Lib.hid X3;have Hcd:=Lib.hid hcd;have HL3:=Lib.hid L3;clear hcd X3 L3 U3 H2 HL2
  go_wp2_with fail
  refine Hcd.out.mono ?_;rintro e w6 ⟨rfl,hm6⟩;have hmk:=pmarks_any (HX3.out.keep0 hm6);have Hmk:=Lib.hid hmk;have Hm6:=Lib.hid hm6;clear hmk hm6 Hcd
  go_wp2_with fail
  refine Hmk.out.mono ?_;rintro e w7 ⟨v',rfl,hv,hm7⟩;have hm67:=Hm6.out.trans0 hm7;obtain ⟨va,vc,rfl,hvx⟩:=hv;obtain ⟨b,off,rfl,hb,-,hc1⟩:=hvx 0 ((0:Int),(7:Int)) rfl;have hdn:=pdone_any (HX3.out.keep0 hm67) 0 (by decide);rw[show oneM2.done 0=true from rfl]at hdn;have Hdn:=Lib.hid hdn
  have Hm67:=Lib.hid hm67;have Hc1:=hc1;simp only[Nat.zero_mul,Nat.add_zero]at Hc1;clear hvx hdn hm7 hm67 hc1 Hmk
  go_wp2_with fail
  refine Hdn.out.mono ?_;rintro e w8 ⟨rfl,hm8⟩;have hft:=pfaults_any (HX3.out.keep0 (Hm67.out.trans0 hm8)).p;rw[show oneM2.faults=0 from rfl]at hft;have Hft:=Lib.hid hft;have Hm8:=Lib.hid hm8;clear hft hm8 Hdn
  go_wp2_with fail
  refine Hft.out.mono ?_;rintro e w9 ⟨rfl,rfl⟩;go_wp2;go_ret;exact ⟨rfl,((Hm1.out.trans0 HL3.out.mod).trans0 Hm67.out).trans0 Hm8.out⟩
end
section
open Go.RowKit Qs Qh
variable {w w1 w2 w' b0:World}{X:XB}{vs vs':List Value}{mv mv':Value}{L L':Lay}{m m':M}{N N':Int}{a:Nat→Addr}
theorem drain_Tk(m:M)(t:Nat):(m.drain t).1.T=m.T:=by unfold M.drain;split <;> rfl
theorem exec_Tk(m:M)(t:Nat)(x:Instr):(m.exec t x).T.length=m.T.length:=by
 have hf:∀k,(m.force k).T=m.T:=fun k=>by
  induction k with
  |zero=>rfl
  |succ k ih=>exact ih
 have hd:(m.drain t).1.T=m.T:=drain_Tk m t;unfold M.exec;simp only
 split
 all_goals first
  |rfl
  |(simp[M.setReg,M.jump,M.setPc];done)
  |(rw[hf])
  |(split <;> first
    |rfl
    |(simp[M.setReg,M.fault,M.fence,M.jump,M.setPc];done)
    |(split <;> first|rfl|(simp[M.setReg,M.fault,M.fence,M.jump,M.setPc];done)|(rw[hd])))
theorem step_Tk(m:M)(t:Nat):(m.step t).1.T.length=m.T.length:=by
 unfold M.step
 split
 ·rfl
 ·split
  ·rfl
  ·rw[exec_Tk];simp[M.setPc]
theorem step_no(m:M)(t:Nat):0≤(m.step t).2∧(m.step t).2≤9:=by
 unfold M.step
 split
 ·first|exact (by decide:(0:Int)≤9∧(9:Int)≤9)|exact (by decide:(0:Int)≤0∧(0:Int)≤9)|exact (by decide:(0:Int)≤5∧(5:Int)≤9)|exact (by decide:(0:Int)≤2∧(2:Int)≤9)
 ·split
  ·first|exact (by decide:(0:Int)≤9∧(9:Int)≤9)|exact (by decide:(0:Int)≤0∧(0:Int)≤9)|exact (by decide:(0:Int)≤5∧(5:Int)≤9)|exact (by decide:(0:Int)≤2∧(2:Int)≤9)
  ·first|exact (by decide:(0:Int)≤9∧(9:Int)≤9)|exact (by decide:(0:Int)≤0∧(0:Int)≤9)|exact (by decide:(0:Int)≤5∧(5:Int)≤9)|exact (by decide:(0:Int)≤2∧(2:Int)≤9)
theorem drain_no(m:M)(t:Nat):0≤(m.drain t).2∧(m.drain t).2≤9:=by
 unfold M.drain
 split
 ·first|exact (by decide:(0:Int)≤9∧(9:Int)≤9)|exact (by decide:(0:Int)≤0∧(0:Int)≤9)|exact (by decide:(0:Int)≤5∧(5:Int)≤9)|exact (by decide:(0:Int)≤2∧(2:Int)≤9)
 ·first|exact (by decide:(0:Int)≤9∧(9:Int)≤9)|exact (by decide:(0:Int)≤0∧(0:Int)≤9)|exact (by decide:(0:Int)≤5∧(5:Int)≤9)|exact (by decide:(0:Int)≤2∧(2:Int)≤9)
def stepZ(m:M)(k:Int):M × Int:=if 0≤k∧k<m.T.length then m.step k.toNat else (m,2)
def drainZ(m:M)(k:Int):M × Int:=if 0≤k∧k<m.T.length then m.drain k.toNat else (m,2)
theorem stepZ_T(m:M)(k:Int):(stepZ m k).1.T.length=m.T.length:=by unfold stepZ;split;exact step_Tk _ _;rfl
theorem drainZ_T(m:M)(k:Int):(drainZ m k).1.T.length=m.T.length:=by unfold drainZ;split;rw[drain_Tk];rfl
theorem stepZ_no(m:M)(k:Int):0≤(stepZ m k).2∧(stepZ m k).2≤9:=by unfold stepZ;split;exact step_no _ _;first|exact (by decide:(0:Int)≤9∧(9:Int)≤9)|exact (by decide:(0:Int)≤0∧(0:Int)≤9)|exact (by decide:(0:Int)≤5∧(5:Int)≤9)|exact (by decide:(0:Int)≤2∧(2:Int)≤9)
theorem drainZ_no(m:M)(k:Int):0≤(drainZ m k).2∧(drainZ m k).2≤9:=by unfold drainZ;split;exact drain_no _ _;first|exact (by decide:(0:Int)≤9∧(9:Int)≤9)|exact (by decide:(0:Int)≤0∧(0:Int)≤9)|exact (by decide:(0:Int)≤5∧(5:Int)≤9)|exact (by decide:(0:Int)≤2∧(2:Int)≤9)
theorem duo_pstep(D:Duo b0 w a X vs mv L m N)(hN:N≤900000000)(k:Int) :
  Calls Tryz.prog 14 #[.pointer (some ⟨X.bX,0,none⟩),.int .i64 k] w fun e w'=>e=.returned (errOf' a (stepZ m k).2)∧∃vs' mv',XUp w X vs mv m w' (stepZ m k).1 vs' mv':=by
 unfold stepZ
 by_cases h:0≤k∧k<m.T.length
 ·rw[if_pos h];obtain ⟨t,rfl⟩:=Int.eq_ofNat_of_zero_le h.1;rw[Int.toNat_natCast];exact pst_any D.PX hN D.low D.labs (by omega)
 ·rw[if_neg h];exact (pst_out D.PX D.low k (by omega)).mono fun e w' ⟨h1,h2⟩=>⟨h1,vs,mv,XUp.quiet D.px h2⟩
theorem duo_pdrain(D:Duo b0 w a X vs mv L m N)(hN:N≤900000000)(k:Int) :
  Calls Tryz.prog 16 #[.pointer (some ⟨X.bX,0,none⟩),.int .i64 k] w fun e w'=>e=.returned (errOf' a (drainZ m k).2)∧∃vs' mv',XUp w X vs mv m w' (drainZ m k).1 vs' mv':=by
 unfold drainZ
 by_cases h:0≤k∧k<m.T.length
 ·rw[if_pos h];obtain ⟨t,rfl⟩:=Int.eq_ofNat_of_zero_le h.1;rw[Int.toNat_natCast];exact (pmdrain_any D.PX (by omega) D.low (by omega)).mono fun e w' ⟨h1,vs',h2⟩=>⟨h1,vs',mv,h2⟩
 ·rw[if_neg h];exact (pmdrain_out D.PX (by omega) D.low k (by omega)).mono fun e w' ⟨h1,h2⟩=>⟨h1,vs,mv,XUp.quiet D.px h2⟩
theorem duo_rstep(D:Duo b0 w a X vs mv L m N)(hN:N≤900000000)(k:Int)(U:XUp w X vs mv m w1 (stepZ m k).1 vs' mv') :
  Calls Tryz.prog 15 #[.pointer (some ⟨L.blk 0 0,0,none⟩),.int .i64 k] w1 fun e w'=>e=.returned (.int .i64 (stepZ m k).2)∧∃L',L'.blk 0 0=L.blk 0 0∧Duo b0 w' a X vs' mv' L' (stepZ m k).1 (N+48):=by
 by_cases h:0≤k∧k<m.T.length
 ·obtain ⟨t,rfl⟩:=Int.eq_ofNat_of_zero_le h.1
  have e:stepZ m (t:Int)=m.step t:=by unfold stepZ;rw[if_pos h,Int.toNat_natCast]
  rw[e]at U ⊢;have hM:=D.ref U;exact (step_any hM (fun _ _ _ _ _=>rfl) (by omega) t (by omega)).mono fun e w' ⟨h1,L',V⟩=>⟨h1,L',V.top.1,D.both U V⟩
 ·have e:stepZ m k=(m,2):=by unfold stepZ;rw[if_neg h]
  rw[e]at U ⊢;have hM:=D.ref U;refine (step_out hM k (by omega)).mono ?_;rintro e w' ⟨h1,rfl⟩;exact ⟨h1,L,rfl,(D.both U (MUp.quiet hM (Mod.refl _ _))).mono (by omega)⟩
theorem duo_rdrain(D:Duo b0 w a X vs mv L m N)(hN:N≤900000000)(k:Int)(U:XUp w X vs mv m w1 (drainZ m k).1 vs' mv') :
  Calls Tryz.prog 17 #[.pointer (some ⟨L.blk 0 0,0,none⟩),.int .i64 k] w1 fun e w'=>e=.returned (.int .i64 (drainZ m k).2)∧∃L',L'.blk 0 0=L.blk 0 0∧Duo b0 w' a X vs' mv' L' (drainZ m k).1 (N+48):=by
 by_cases h:0≤k∧k<m.T.length
 ·obtain ⟨t,rfl⟩:=Int.eq_ofNat_of_zero_le h.1
  have e:drainZ m (t:Int)=m.drain t:=by unfold drainZ;rw[if_pos h,Int.toNat_natCast]
  rw[e]at U ⊢;have hM:=D.ref U;exact (mdrain_any hM (by omega) t (by omega)).mono fun e w' ⟨h1,L',V⟩=>⟨h1,L',V.top.1,(D.both U V).mono (by omega)⟩
 ·have e:drainZ m k=(m,2):=by unfold drainZ;rw[if_neg h]
  rw[e]at U ⊢;have hM:=D.ref U;refine (mdrain_out hM k (by omega)).mono ?_;rintro e w' ⟨h1,rfl⟩;exact ⟨h1,L,rfl,(D.both U (MUp.quiet hM (Mod.refl _ _))).mono (by omega)⟩
theorem Duo.start{wp:World}{n:Nat}{init regs:List (List Int)}{cs:List (List Instr)}{raw:List (List RI)}{cv:Nat→Value}(E:ErrsAt b0 a)(hcs:cs.map (fun c=>c.map rawI)=raw)(ho:∀l∈raw,∀x∈l,x.to.size≤maxLen)
  (hP:PMach wp X vs mv (startM n init regs cs)) (hm:Mod noF b0 wp) (hlow:∀x,XFoot X vs mv x→b0.heap.size≤x)
  (hown:∀(t:Nat) h,(startM n init regs cs).T[t]?=some h→(∀g,(X.cv t).ownBlock=some g→b0.heap.size≤g)∧b0.heap.size≤X.mb t)
  (hM:Mach ty w L (startM n init regs cs) 1) (hB:Mod noF wp w) (hf:∀j,Foot ty allK L (startM n init regs cs) j→wp.heap.size≤j)
  (hcode:L.code=cv) (hcv:∀(t:Nat) c,cs[t]?=some c→c≠[]→∀g,(cv t).ownBlock=some g→g<b0.heap.size):Duo b0 w a X vs mv L (startM n init regs cs) 1:=by
 refine ⟨hP.keep0 hB,⟨E,hm.trans0 hB,hlow⟩,hM,fun x hx=>Nat.le_trans hm.size (hf x hx),fun x hx hxf=>?_,fun t h hh=>⟨fun g hg hx=>?_,fun hx=>?_⟩,fun t h hh hn g hg hx=>?_,startM_labs hcs ho⟩
 ·have:=hf x hx;have:=hP.lt hxf;omega
 ·have:=hf g hx;have:=((hP.code t h hh).2 g hg).2;omega
 ·have:=hf _ hx;have:=(hP.maps t h hh).1.lt;omega
 ·obtain ⟨c,hc,rfl⟩:=startM_T' hh;rw[hcode]at hg
  have:=hcv t c hc hn g hg;have:=hlow g hx;omega
theorem rcode_code{v:Value}{c:List Instr}(h:RCode w v (c.map rawI))(hc:∃a n k,v=.slice a n k∧k≤maxLen):CodeAt w v c:=by
 obtain ⟨⟨sa,sc,rfl,hx⟩,-⟩:=h;obtain ⟨a1,n1,k1,e,hk⟩:=hc;cases e;refine ⟨_,_,by rw[List.length_map],hk,fun i x hi=>?_⟩;obtain ⟨b,off,rfl,hb,h0,h1,h2,h3,h4⟩:=hx i (rawI x) (by rw[List.getElem?_map,hi];rfl);refine ⟨b,off,rfl,hb,fun j y hy=>?_⟩
 match j,hy with
 |0,hy=>cases hy;exact h0
 |1,hy=>cases hy;exact h1
 |2,hy=>cases hy;exact h2
 |3,hy=>cases hy;exact h3
 |4,hy=>cases hy;exact h4
 |j+5,hy=>simp[instrVals]at hy
theorem rcodes_codes{v:Value}{cs:List (List Instr)}{raw:List (List RI)}{cv:Nat→Value}(h:RCodesAt w v raw cv)(hcs:cs.map (fun c=>c.map rawI)=raw)(hcap:∀(i:Nat) l,raw[i]?=some l→∃a n k,cv i=.slice a n k∧k≤maxLen):CodesAt0 w v cs cv:=by
 subst hcs;obtain ⟨a,c,e,hx⟩:=h;refine ⟨a,c,by rw[e,List.length_map],fun i l hi=>?_⟩
 have hi':(cs.map (fun c=>c.map rawI))[i]?=some (l.map rawI):=by rw[List.getElem?_map,hi];rfl
 obtain ⟨b,off,e1,hb,hc,hr,ho⟩:=hx i _ hi';exact ⟨b,off,e1,hb,hc,rcode_code hr (hcap i _ hi'),ho⟩
end
section
open Go.RowKit Qs Qh
theorem startOf_any(n:Int)(iw rw_:Value)(w:World)(hi:∃a b c,iw=.slice a b c)(hr:∃a b c,rw_=.slice a b c) :
  Calls Tryz.prog 11 #[.agg #[.int .i64 n,iw,rw_]] w fun e w'=>e=.returned (.agg #[.int .i64 n,iw,rw_])∧Mod noF w w':=by
 obtain ⟨a1,b1,c1,rfl⟩:=hi;obtain ⟨a2,b2,c2,rfl⟩:=hr
 go_enter Tryz.func11,Tryz.ntmps11
 go_wp2;refine bodyPost_ret (v:=.agg #[.int .i64 n,.slice a1 b1 c1,.slice a2 b2 c2]) (by simp[results,Tryz.results11,go_sem]) rfl ⟨rfl,((Mod.refl noF w).alloc _).alloc _⟩
structure LawIn(w:World)(a:Nat→Addr)(iw rw_ cw sw:Value)(init regs:List (List Int))(codes:List (List RI))(cv:Nat→Value)(script:List Int):Prop where
 errs:ErrsAt w a
 fI:RowsAt0 w iw init
 fR:RowsAt0 w rw_ regs
 fC:RCodesAt w cw codes cv
 fS:IntsAt w sw script
 li:init.length≤maxLen
 lr:regs.length≤maxLen
 lc:codes.length≤maxLen
 lk:∀l∈codes,l.length≤maxLen
 cap:∀(i:Nat) l,codes[i]?=some l→∃a n k,cv i=.slice a n k∧k≤maxLen
theorem rows_slice{w:World}{v:Value}{ll:List (List Int)}(h:RowsAt0 w v ll):∃a b c,v=.slice a b c:=by
 obtain ⟨a,c,e,-⟩:=h;exact ⟨a,_,c,e⟩
theorem machSteps_walk(n:Int)(iw rw_ cw sw:Value)(init regs:List (List Int))(codes:List (List RI))(cv:Nat→Value)(script:List Int)(t r:Int)(w:World){a:Nat→Addr}(I:LawIn w a iw rw_ cw sw init regs codes cv script) :
  Calls Tryz.prog 3 #[.agg #[.int .i64 n,iw,rw_],cw,sw,.int .i64 t,.int .i64 r] w fun e w'=>e=.returned (.bool true)∧Mod noF w w':=by
 obtain ⟨wz,hwz⟩:∃wz,wz=w.alloc (.cells #[.int .i64 n,iw,rw_] 24):=⟨_,rfl⟩
 have hmz:Mod noF w wz:=by rw[hwz];exact (Mod.refl noF w).alloc _
 have h1:=lawOne_any (I.errs.keep hmz)
 have hvast:∀W,Mod noF w W→Calls Tryz.prog 9 #[.agg #[.int .i64 n,iw,rw_],cw] W fun e w'=>(∃k:Int,e=.returned (.int .i64 k))∧Mod noF W w':=fun W hW=>
  vast_any n iw rw_ cw init regs codes cv W (rows_keep0 I.fI hW) (rows_keep0 I.fR hW) (I.fC.keep hW) I.li I.lr I.lc I.lk
 have hstart:∀W,Calls Tryz.prog 11 #[.agg #[.int .i64 n,iw,rw_]] W fun e w'=>e=.returned (.agg #[.int .i64 n,iw,rw_])∧Mod noF W w':=fun W=>startOf_any n iw rw_ W (rows_slice I.fI) (rows_slice I.fR)
 have hnew:∀W,Mod noF w W→Calls Tryz.prog 10 #[.agg #[.int .i64 n,iw,rw_],cw] W fun e w'=>
   (¬ShapeR n init regs codes∧e=.returned (.tuple #[.pointer none,errV a 1])∧Mod noF W w')∨(∃k:Nat,n=k∧ShapeR n init regs codes∧(NewBad W a codes e w'∨NewGood W k init regs codes e w')):=fun W hW=>
  pnew_any n iw rw_ cw init regs codes cv W (I.errs.keep hW) (rows_keep0 I.fI hW) (rows_keep0 I.fR hW) (I.fC.keep hW) I.lk
 have HI:=Lib.hid I;obtain ⟨ia,ib,ic,ei⟩:=rows_slice I.fI;obtain ⟨ra,rb,rc,er⟩:=rows_slice I.fR;obtain ⟨ca,cc,ec,-⟩:=id I.fC;obtain ⟨sa,sc,es,hsl,-⟩:=id I.fS.at_;subst ei er ec es
 have s0:wz.cell? ⟨w.heap.size,0,none⟩=some (.int .i64 n):=by rw[hwz];simp
 have s1:wz.cell? ⟨w.heap.size,1,none⟩=some (.slice ia ib ic):=by rw[hwz];simp
 have s2:wz.cell? ⟨w.heap.size,2,none⟩=some (.slice ra rb rc):=by rw[hwz];simp
 have sb:w.heap.size<wz.heap.size:=by rw[hwz];simp
 have H1:=Lib.hid h1;have Hvast:=Lib.hid hvast;have Hstart:=Lib.hid hstart;have Hnew:=Lib.hid hnew;have Hmz:=Lib.hid hmz;unfold maxLen at hsl;clear h1 hvast hstart hnew hmz I
 go_enter Tryz.func3,Tryz.ntmps3
 go_wp2_with fail
 rw[←hwz];clear hwz;refine H1.out.mono ?_;rintro e w1 ⟨rfl,hm1⟩;have q0:=hm1.cell s0 (fun e=>e);have q1:=hm1.cell s1 (fun e=>e);have q2:=hm1.cell s2 (fun e=>e);have qb:=Nat.lt_of_lt_of_le sb hm1.size;have Hm1:=Lib.hid (Hmz.out.trans0 hm1);clear hm1 s0 s1 s2 H1
 go_wp2_with fail
 refine (Hvast.out w1 Hm1.out).mono ?_;rintro e w2 ⟨⟨kv,rfl⟩,hm2⟩;have u0:=hm2.cell q0 (fun e=>e);have u1:=hm2.cell q1 (fun e=>e);have u2:=hm2.cell q2 (fun e=>e);have ub:=Nat.lt_of_lt_of_le qb hm2.size;have Hm2:=Lib.hid (Hm1.out.trans0 hm2);clear hm2 q0 q1 q2 Hvast
 by_cases hv:0<kv
 ·have hd:decide (0<kv)=true:=by simpa using hv
  go_wp2;go_ret;exact ⟨rfl,Hm2.out⟩
 ·have hd:decide (0<kv)=false:=by simpa using hv
  by_cases hs60:60<script.length
  ·have hd6:decide ((60:Int)<(script.length:Int))=true:=by simp;omega
   go_wp2;go_ret;exact ⟨rfl,Hm2.out⟩
  ·have hd6:decide ((60:Int)<(script.length:Int))=false:=by simp;omega
   go_wp2_with fail
   refine (Hstart.out w2).mono ?_;rintro e w3 ⟨rfl,hm3⟩;have Hm3:=Lib.hid (Hm2.out.trans0 hm3);have v0:=hm3.cell u0 (fun e=>e);have v1:=hm3.cell u1 (fun e=>e);have v2:=hm3.cell u2 (fun e=>e);have vb:=Nat.lt_of_lt_of_le ub hm3.size;clear hm3 u0 u1 u2 Hstart
   go_wp2_with fail
   refine (Hnew.out w3 Hm3.out).mono ?_;rintro e w4 (⟨-,rfl,hm4⟩|⟨k,rfl,hsh,hb|hg⟩)
   ·have Hm4:=Lib.hid (Hm3.out.trans0 hm4);clear hm4;unfold errV;go_wp2;go_ret;exact ⟨rfl,Hm4.out⟩
   ·obtain ⟨i,c,-,-,-,g,rfl,-,-,hm4⟩:=hb;have Hm4:=Lib.hid (Hm3.out.trans0 hm4);clear hm4;go_wp2;go_ret;exact ⟨rfl,Hm4.out⟩
   ·obtain ⟨cs,X,vs,mv,hcs,hfine,rfl,hP,hm4,hlow,hown⟩:=hg;have x0:=hm4.cell v0 (fun e=>e);have x1:=hm4.cell v1 (fun e=>e);have x2:=hm4.cell v2 (fun e=>e);have xb:=Nat.lt_of_lt_of_le vb hm4.size;have hm04:=Hm3.out.trans0 hm4
    have hcl:cs.length=codes.length:=by rw[←hcs];simp
    obtain ⟨z1,z2,z3,z4,z5,z6,z7,z8⟩:=hsh;have hC:=rcodes_codes (HI.out.fC.keep hm04) hcs HI.out.cap
    have hnm:=newMachine_le k (.slice ia ib ic) (.slice ra rb rc) (.slice ca codes.length cc) init regs cs cv w4 (rows_keep0 HI.out.fI hm04) (rows_keep0 HI.out.fR hm04) hC (by omega) (by omega) (by omega) (by omega) (by omega) (by omega) (rows_fine z7) (rows_fine z8) hfine
    have hp5:=hP.top_at.2.2.2.2.2;have HP:=Lib.hid hP;have Hlow:=Lib.hid hlow;have Hown:=Lib.hid hown;have Hcs:=Lib.hid hcs;have Hnm:=Lib.hid hnm;have Hm4:=Lib.hid hm4;clear hP hlow hown hcs hnm hm4 hC hm04 v0 v1 v2 Hnew hfine z7 z8
    go_wp2_with fail
    refine Hnm.out.mono ?_;rintro e w5 ⟨L,rfl,hLc,hM,hB,hft⟩;have hB5:Mod noF w4 w5:=Mod.below hB
    have D:Duo w3 w5 a X vs mv L (startM k init regs cs) 1:=by
     refine Duo.start (HI.out.errs.keep Hm3.out) Hcs.out (fun l hl x hx=>?_) HP.out Hm4.out Hlow.out Hown.out hM hB5 hft hLc (fun t c hc hn g hg=>?_)
     ·obtain ⟨i,hi⟩:=List.mem_iff_getElem?.1 hl;obtain ⟨_,_,_,hx'⟩:=HI.out.fC;obtain ⟨_,_,_,_,_,hr,_⟩:=hx' i l hi;exact hr.ok x hx
     ·obtain ⟨_,_,_,hx'⟩:=HI.out.fC
      have hi:codes[t]?=some (c.map rawI):=by rw[←Hcs.out,List.getElem?_map,hc];rfl
      obtain ⟨_,_,_,_,_,hr,_⟩:=hx' t _ hi;exact Nat.lt_of_lt_of_le ((rcode_code hr (HI.out.cap t _ hi)).own hn g hg) Hm3.out.size
    have HD:=Lib.hid D
    have hTl:(startM k init regs cs).T.length=codes.length:=by rw[startM_len,hcl]
    have hBb:L.blk 0 0<w5.heap.size:=D.mach.top.2.2.2.2.2;have HTl:=Lib.hid hTl;clear D hM hB hft hB5 hLc hTl;go_wp2
    go_loopw [15] (fun i wr=>∃(j:Nat) (vs':List Value) (mv':Value) (L':Lay) (m:M) (N:Int),j≤script.length∧i=.int .i64 j∧Duo w3 wr a X vs' mv' L' m N∧L'.blk 0 0=L.blk 0 0∧N≤1+48*j∧m.T.length=codes.length) (fun i _=>script.length - (intOf i).toNat)
    case atStart=>exact ⟨0,_,_,_,_,_,Nat.zero_le _,rfl,HD.out,rfl,by omega,HTl.out⟩
    case round=>
     obtain ⟨j,vs1,mv1,L1,m,N,hj,rfl,hD1,hbk,hN,hT⟩:=hrel;obtain ⟨wo,rfl⟩:∃wo:World,wo=wr:=⟨_,rfl⟩;have hwo:=Hm3.out.trans0 hD1.low.mod;have Hwo:=Lib.hid hwo;have HD1:=Lib.hid hD1;have Hbk:=Lib.hid hbk;have HT:=Lib.hid hT;clear hwo hD1 hbk hT
     by_cases hlt:j<script.length
     ·have hd1:decide ((j:Int)<(script.length:Int))=true:=by simp;omega
      have hji:(j:Int)<(script.length:Int):=by omega
      obtain ⟨x,hx⟩:∃x,script[j]?=some x:=⟨_,List.getElem?_eq_getElem hlt⟩;obtain ⟨_,_,es,-,hxi⟩:=(HI.out.fS.frame0 Hwo.out).at_;cases es;obtain ⟨b,off,rfl,hb,hc⟩:=hxi j x hx;clear hxi hx
      go_wp2_with fail
      ·refine (duo_pstep HD1.out (by omega) (x/2)).mono ?_;rintro e w6 ⟨rfl,vs2,mv2,U⟩;have hr:=duo_rstep HD1.out (by omega) (x/2) U;rw[Hbk.out]at hr;have Hr:=Lib.hid hr;clear hr U
       go_wp2_with fail
       refine Hr.out.mono ?_;rintro e w7 ⟨rfl,L2,hbk2,D2⟩;have hno:=stepZ_no m (x/2);have hcd:=coded_self D2.low.E (stepZ m (x/2)).2 hno.1 hno.2;have HD2:=Lib.hid D2;have Hcd:=Lib.hid hcd;have Hbk2:=Lib.hid hbk2
       have hT2:(stepZ m (x/2)).1.T.length=codes.length:=by rw[stepZ_T];exact HT.out
       have HT2:=Lib.hid hT2;generalize (stepZ m (x/2)).1=m2 at *;clear hno hcd D2 hbk2 hT2 Hr
       go_wp2_with fail
       refine Hcd.out.mono ?_;rintro e w8 ⟨rfl,hm8⟩;have D3:=HD2.out.keep0 hm8;have has:=asModel_any D3 (by omega);rw[Hbk2.out]at has;have Has:=Lib.hid has;have HD3:=Lib.hid D3;clear D3 has hm8 Hcd
       go_wp2_with fail
       ·refine Has.out.mono ?_;rintro e w9 ⟨rfl,hm9⟩;have HD4:=Lib.hid (HD3.out.keep0 hm9);clear hm9;go_wp2
        go_roundw
        case rel=>exact ⟨j+1,_,_,_,_,_,by omega,by go_num,HD4.out,Hbk2.out,by omega,HT2.out⟩
        case measure=>simp[intOf];omega
       ·go_roundw
        case rel=>exact ⟨j+1,_,_,_,_,_,by omega,by go_num,HD3.out,Hbk2.out,by omega,HT2.out⟩
        case measure=>simp[intOf];omega
      ·refine (duo_pdrain HD1.out (by omega) (x/2)).mono ?_;rintro e w6 ⟨rfl,vs2,mv2,U⟩;have hr:=duo_rdrain HD1.out (by omega) (x/2) U;rw[Hbk.out]at hr;have Hr:=Lib.hid hr;clear hr U
       go_wp2_with fail
       refine Hr.out.mono ?_;rintro e w7 ⟨rfl,L2,hbk2,D2⟩;have hno:=drainZ_no m (x/2);have hcd:=coded_self D2.low.E (drainZ m (x/2)).2 hno.1 hno.2;have HD2:=Lib.hid D2;have Hcd:=Lib.hid hcd;have Hbk2:=Lib.hid hbk2
       have hT2:(drainZ m (x/2)).1.T.length=codes.length:=by rw[drainZ_T];exact HT.out
       have HT2:=Lib.hid hT2;generalize (drainZ m (x/2)).1=m2 at *;clear hno hcd D2 hbk2 hT2 Hr
       go_wp2_with fail
       refine Hcd.out.mono ?_;rintro e w8 ⟨rfl,hm8⟩;have D3:=HD2.out.keep0 hm8;have has:=asModel_any D3 (by omega);rw[Hbk2.out]at has;have Has:=Lib.hid has;have HD3:=Lib.hid D3;clear D3 has hm8 Hcd
       go_wp2_with fail
       ·refine Has.out.mono ?_;rintro e w9 ⟨rfl,hm9⟩;have HD4:=Lib.hid (HD3.out.keep0 hm9);clear hm9;go_wp2
        go_roundw
        case rel=>exact ⟨j+1,_,_,_,_,_,by omega,by go_num,HD4.out,Hbk2.out,by omega,HT2.out⟩
        case measure=>simp[intOf];omega
       ·go_roundw
        case rel=>exact ⟨j+1,_,_,_,_,_,by omega,by go_num,HD3.out,Hbk2.out,by omega,HT2.out⟩
        case measure=>simp[intOf];omega
     ·have hd1:decide ((j:Int)<(script.length:Int))=false:=by simp;omega
      by_cases ht:t<0∨(codes.length:Int)≤t
      ·have hreg:=preg_out HD1.out.PX HD1.out.low.E t r (by rw[HT.out];omega);have Hreg:=Lib.hid hreg;clear hreg
       by_cases ht0:t<0
       ·have hdt:decide (t<0)=true:=by simpa using ht0
        go_wp2_with fail
        refine Hreg.out.mono ?_;rintro e w6 ⟨rfl,hm6⟩;have D2:=HD1.out.keep0 hm6;have hcd:Calls Tryz.prog 13 #[errV a 1,.int .i64 2] w6 fun r w'=>r=.returned (.bool true)∧Mod noF w6 w':=coded_self D2.low.E 2 (by decide) (by decide);have Hcd:=Lib.hid hcd
        have HD2:=Lib.hid D2;clear hcd D2 hm6 Hreg
        go_wp2_with fail
        refine Hcd.out.mono ?_;rintro e w7 ⟨rfl,hm7⟩;have D3:=HD2.out.keep0 hm7;have hdn:=pdone_out D3.PX t (by rw[HT.out];exact ht);have Hdn:=Lib.hid hdn;have Hf:=Lib.hid (Hm3.out.trans0 D3.low.mod);clear hdn D3 hm7 Hcd
        go_wp2_with fail
        refine Hdn.out.mono ?_;rintro e w8 ⟨rfl,rfl⟩;go_wp2;go_ret;exact ⟨rfl,Hf.out⟩
       ·have hdt:decide (t<0)=false:=by simpa using ht0
        have hdt2:decide ((codes.length:Int)≤t)=true:=by simpa using ht.resolve_left ht0
        go_wp2_with fail
        refine Hreg.out.mono ?_;rintro e w6 ⟨rfl,hm6⟩;have D2:=HD1.out.keep0 hm6;have hcd:Calls Tryz.prog 13 #[errV a 1,.int .i64 2] w6 fun r w'=>r=.returned (.bool true)∧Mod noF w6 w':=coded_self D2.low.E 2 (by decide) (by decide);have Hcd:=Lib.hid hcd
        have HD2:=Lib.hid D2;clear hcd D2 hm6 Hreg
        go_wp2_with fail
        refine Hcd.out.mono ?_;rintro e w7 ⟨rfl,hm7⟩;have D3:=HD2.out.keep0 hm7;have hdn:=pdone_out D3.PX t (by rw[HT.out];exact ht);have Hdn:=Lib.hid hdn;have Hf:=Lib.hid (Hm3.out.trans0 D3.low.mod);clear hdn D3 hm7 Hcd
        go_wp2_with fail
        refine Hdn.out.mono ?_;rintro e w8 ⟨rfl,rfl⟩;go_wp2;go_ret;exact ⟨rfl,Hf.out⟩
      ·have hdt:decide (t<0)=false:=by simp;omega
       have hdt2:decide ((codes.length:Int)≤t)=false:=by simp;omega
       by_cases hr8:r<0∨8≤r
       ·have hreg:=preg_out HD1.out.PX HD1.out.low.E t r (by omega);have Hreg:=Lib.hid hreg;clear hreg
        by_cases hr0:r<0
        ·have hdr:decide (r<0)=true:=by simpa using hr0
         go_wp2_with fail
         refine Hreg.out.mono ?_;rintro e w6 ⟨rfl,hm6⟩;have D2:=HD1.out.keep0 hm6;have hcd:Calls Tryz.prog 13 #[errV a 1,.int .i64 2] w6 fun r w'=>r=.returned (.bool true)∧Mod noF w6 w':=coded_self D2.low.E 2 (by decide) (by decide);have Hcd:=Lib.hid hcd
         have HD2:=Lib.hid D2;clear hcd D2 hm6 Hreg
         go_wp2_with fail
         refine Hcd.out.mono ?_;rintro e w7 ⟨rfl,hm7⟩;have D3:=HD2.out.keep0 hm7;have Hf:=Lib.hid (Hm3.out.trans0 D3.low.mod);clear D3 hm7 Hcd;go_wp2;go_ret;exact ⟨rfl,Hf.out⟩
        ·have hdr:decide (r<0)=false:=by simpa using hr0
         have hdr2:decide (8≤r)=true:=by simpa using hr8.resolve_left hr0
         go_wp2_with fail
         refine Hreg.out.mono ?_;rintro e w6 ⟨rfl,hm6⟩;have D2:=HD1.out.keep0 hm6;have hcd:Calls Tryz.prog 13 #[errV a 1,.int .i64 2] w6 fun r w'=>r=.returned (.bool true)∧Mod noF w6 w':=coded_self D2.low.E 2 (by decide) (by decide);have Hcd:=Lib.hid hcd
         have HD2:=Lib.hid D2;clear hcd D2 hm6 Hreg
         go_wp2_with fail
         refine Hcd.out.mono ?_;rintro e w7 ⟨rfl,hm7⟩;have D3:=HD2.out.keep0 hm7;have Hf:=Lib.hid (Hm3.out.trans0 D3.low.mod);clear D3 hm7 Hcd;go_wp2;go_ret;exact ⟨rfl,Hf.out⟩
       ·have hdr:decide (r<0)=false:=by simp;omega
        have hdr2:decide (8≤r)=false:=by simp;omega
        obtain ⟨tn,rfl⟩:=Int.eq_ofNat_of_zero_le (show 0≤t by omega);obtain ⟨rn,rfl⟩:=Int.eq_ofNat_of_zero_le (show 0≤r by omega)
        have htl:tn<m.T.length:=by rw[HT.out];omega
        have htc:(tn:Int)<(codes.length:Int):=by omega
        have hrl:rn<8:=by omega
        have hri:(rn:Int)<8:=by omega
        obtain ⟨h,hh⟩:∃h,m.T[tn]?=some h:=⟨_,List.getElem?_eq_getElem htl⟩;have hreg:=preg_any HD1.out.PX hh hrl;have Hreg:=Lib.hid hreg;have Hh:=Lib.hid hh;clear hreg hh
        go_wp2_with fail
        refine Hreg.out.mono ?_;rintro e w6 ⟨rfl,hm6⟩;have D2:=HD1.out.keep0 hm6;obtain ⟨-,y1,-,-,-,y5⟩:=D2.mach.top;obtain ⟨-,y2,-,-,y3⟩:=D2.mach.thr_at Hh.out;obtain ⟨y4,-,y6⟩:=D2.mach.reg_at Hh.out hrl;rw[Hbk.out,HT.out]at y1;rw[Hbk.out]at y5;have has:=asModel_any D2 (by omega);rw[Hbk.out]at has
        have Has:=Lib.hid has;have Hf:=Lib.hid (Hm3.out.trans0 D2.low.mod);obtain ⟨rv,hrv⟩:∃rv,rv=h.regs.getD rn 0:=⟨_,rfl⟩;rw[←hrv]at y4 ⊢;clear has D2 hm6 Hreg hrv
        go_wp2_with fail
        refine Has.out.mono ?_;rintro e w7 ⟨rfl,hm7⟩;have Hf2:=Lib.hid (Hf.out.trans0 hm7);clear hm7;go_wp2;go_ret;exact ⟨rfl,Hf2.out⟩
end
section
open Go.RowKit Qs Qh
theorem lawIn_of{w:World}{a:Nat→Addr}{n:Int}{iw rw_:Value}{zi zr:List (List Int)}{v sw:Value}{z:List (List RI)}{cv:Nat→Value}{script:List Int}(E:ErrsAt w a)(hs:StartIn w n iw rw_ zi zr)(hc:InsRows w v z cv)(hi:IntsAt w sw script):LawIn w a iw rw_ v sw zi zr z cv script:=
 ⟨E,hs.1.1,hs.2.1,hc.1,hi,hs.1.2,hs.2.2,hc.2.1,hc.2.2.1,hc.2.2.2⟩
theorem machSteps_any(a0:Int)(iw0 rw0:Value)(zi0 zr0:List (List Int))(a1:Option Addr)(len1 cap1:Nat)(z1:List (List RI))(cv1:Nat→Value)(a2:Option Addr)(len2 cap2:Nat)(z2:List Int)(a3 a4:Int)(w:World)
  (h0:StartIn w a0 iw0 rw0 zi0 zr0) (h1:InsRows w (.slice a1 len1 cap1) z1 cv1) (h2:IsRow .i64 w a2 len2 cap2 z2) (h3:(Lit.int .i64 a3).wf=true) (h4:(Lit.int .i64 a4).wf=true) (h5:∃a,ErrsAt w a) :
  Calls Tryz.prog 3 #[.agg #[.int .i64 a0,iw0,rw0],.slice a1 len1 cap1,.slice a2 len2 cap2,.int .i64 a3,.int .i64 a4] w fun e w'=>e=.returned (.bool true)∧Below w.heap.size w w':=by
 obtain ⟨a,E⟩:=h5;obtain ⟨l,hl,-,-⟩:=h2.ints;exact (machSteps_walk a0 iw0 rw0 _ _ zi0 zr0 z1 cv1 l a3 a4 w (lawIn_of E h0 h1 hl)).mono fun e w' h=>⟨h.1,h.2.toBelow⟩
end
end Go.Proofs.YtciaficoeajeaaaGreatDoor
