/- Texts that belong together, joined. -/
import Derived.Test.YtciaficoeajeaaaGreatDoorWFm7
import Derived.Test.YtciaficoeajeaaaGreatDoorWFPmT1
import Derived.Test.YtciaficoeajeaaaGreatDoorWFPmT2
import Derived.Test.YtciaficoeajeaaaGreatDoorWFPmT3
import Derived.Test.YtciaficoeajeaaaGreatDoorWFPmT4
import Derived.Test.YtciaficoeajeaaaGreatDoorWFPmT5
import Derived.Test.YtciaficoeajeaaaGreatDoorWFPmT6
import Derived.Test.YtciaficoeajeaaaGreatDoorWFm10
import Derived.Test.YtciaficoeajeaaaGreatDoorWFPmS2
import Derived.Test.YtciaficoeajeaaaGreatDoorWFPmS3
import Derived.Test.YtciaficoeajeaaaGreatDoorWFPmS6
import Derived.Test.YtciaficoeajeaaaGreatDoorWFm4
import Derived.Test.YtciaficoeajeaaaGreatDoorWFm8
import Derived.Test.YtciaficoeajeaaaGreatDoorWFm5
import Derived.Deep.RegionHeld3
import Derived.Carry
import Derived.Maps.Views
import Derived.Test.YtciaficoeajeaaaGreatDoorWFm9
import Derived.Test.YtciaficoeajeaaaGreatDoorWFm6
set_option linter.unusedVariables false
set_option linter.unusedSimpArgs false
set_option linter.unusedSectionVars false
set_option maxHeartbeats 16000000
set_option maxRecDepth 100000
namespace Go.Proofs.YtciaficoeajeaaaGreatDoor
section
open Go.RowKit Qs Qh
variable {w w1 w2 w' b0:World}{X:XB}{vs vs':List Value}{mv mv':Value}{m m':M}{N:Int}{a:Nat→Addr}
theorem okT_setPc(ot:OkT N m){t:Nat}{h:Thr}(hh:m.T[t]?=some h){p:Nat}(hp:p≤h.code.length):OkT N (m.setPc t p):=by
 have e:m.setPc t p = {m with T:=m.T.set t {h with pc:=p}}:=by unfold M.setPc;rw[modify_get _ hh]
 rw[e]
 have hT:∀(u:Nat) k,(m.T.set t {h with pc:=p})[u]?=some k→k = {h with pc:=p}∨m.T[u]?=some k:=fun u k hk=>by
  rw[List.getElem?_set]at hk
  split at hk
  ·split at hk
   ·cases hk;exact .inl rfl
   ·cases hk
  ·exact .inr hk
 refine ⟨by simpa using ot.len,by simpa using ot.t1,fun u k hk=>?_,fun u k hk=>?_,ot.marks,ot.f0⟩
 ·rcases hT u k hk with rfl|hk
  ·exact ot.regs t h hh
  ·exact ot.regs u k hk
 ·rcases hT u k hk with rfl|hk
  ·exact ⟨hp,(ot.code t h hh).2⟩
  ·exact ot.code u k hk
theorem okM_setPc(om:OkM N m)(t p:Nat):OkM N (m.setPc t p):=⟨om.cells1,om.cells,om.words,om.times,om.waits,om.wlen,om.wval,om.N0⟩
def PStTold(w:World)(X:XB)(vs:List Value)(mv:Value)(m:M)(a:Nat→Addr)(t:Nat):Prop:=
 Calls Tryz.prog 14 #[.pointer (some ⟨X.bX,0,none⟩),.int .i64 t] w fun e w'=>e=.returned (errOf' a (m.step t).2)∧∃vs' mv',XUp w X vs mv m w' (m.step t).1 vs' mv'
theorem ptold{t:Nat}{h:Thr}{x:Instr}(hh:m.T[t]?=some h)(hx:h.code[h.pc]?=some x)(h20:x.op≠20){m':M}(he:(m.setPc t (h.pc+1)).exec t x=m')
  (hc:Calls Tryz.prog 14 #[.pointer (some ⟨X.bX,0,none⟩),.int .i64 t] w fun e w'=>e=.returned .nilIface∧∃vs' mv',XUp w X vs mv m w' m' vs' mv'):PStTold w X vs mv m a t:=by
 unfold PStTold;rw[step_eq hh hx h20,he];exact hc
theorem pst_any(H:PX w X vs mv m N)(hN:N≤900000000)(L:XLow b0 w a X vs mv)(hLab:LabsOk m){t:Nat}(ht:t<m.T.length) :
  Calls Tryz.prog 14 #[.pointer (some ⟨X.bX,0,none⟩),.int .i64 t] w fun e w'=>e=.returned (errOf' a (m.step t).2)∧∃vs' mv',XUp w X vs mv m w' (m.step t).1 vs' mv':=by
 show PStTold w X vs mv m a t;obtain ⟨h,hh⟩:∃h,m.T[t]?=some h:=⟨_,List.getElem?_eq_getElem ht⟩
 cases hx:h.code[h.pc]? with
 |none=>
  have hs:=Qh.step_end hh hx
  have hd:m.done t=true:=by unfold M.done;rw[thr_of hh,hx]
  unfold PStTold;rw[hs];refine (pst_done H L ht hd).mono ?_;rintro e w' ⟨rfl,hm⟩;exact ⟨rfl,vs,mv,XUp.quiet H.p hm⟩
 |some x=>
  by_cases h20:x.op=20
  ·have hs:=step_stop hh hx h20
   have hd:m.done t=true:=by unfold M.done;rw[thr_of hh,hx];simp[h20]
   unfold PStTold;rw[hs];refine (pst_done H L ht hd).mono ?_;rintro e w' ⟨rfl,hm⟩;exact ⟨rfl,vs,mv,XUp.quiet H.p hm⟩
  ·have hmem:x∈h.code:=List.mem_of_getElem? hx;have hto:=hLab t h hh x hmem;have hco:=(H.ot.code t h hh).2;have hi:=hco.ins x hmem;have hlab:=hco.lab x hmem;have hlt:h.pc<h.code.length:=(List.getElem?_eq_some_iff.1 hx).1;have h8:=(H.ot.regs t h hh).1
   have hP:∀W,XUp w X vs mv m W (m.setPc t (h.pc+1)) vs mv→PX W X vs mv (m.setPc t (h.pc+1)) N:=fun W U=>⟨U.rep,okM_setPc H.om _ _,okT_setPc H.ot hh (by omega)⟩;have hh1:(m.setPc t (h.pc+1)).T[t]?=some {h with pc:=h.pc+1}:=setPc_T hh _
   have ht1:t<(m.setPc t (h.pc+1)).T.length:=(List.getElem?_eq_some_iff.1 hh1).1
   have hN1:N≤1000000000:=by omega
   obtain ⟨op,A,B,C,to⟩:=x
   rcases op_cases op with rfl|rfl|rfl|rfl|rfl|rfl|rfl|rfl|rfl|rfl|rfl|rfl|rfl|rfl|rfl|rfl|rfl|rfl|rfl|rfl|hbig
   ·obtain ⟨h1,hB⟩:=hi;obtain ⟨ra,rfl,ha⟩:=reg_nat h1;exact ptold hh hx h20 (exec_const hh) (pst_const H hN L ht hh (by omega) hx)
   ·obtain ⟨h1,h2⟩:=hi;obtain ⟨ra,rfl,ha⟩:=reg_nat h1;obtain ⟨rb,rfl,hb⟩:=reg_nat h2;exact ptold hh hx h20 (exec_move hh) (pst_move H hN L ht hh (by omega) (by omega) hx)
   ·obtain ⟨h1,h2,h3⟩:=hi;obtain ⟨ra,rfl,ha⟩:=reg_nat h1;obtain ⟨rb,rfl,hb⟩:=reg_nat h2;obtain ⟨rc,rfl,hc⟩:=reg_nat h3;exact ptold hh hx h20 (exec_add hh) (pst_add H hN L ht hh (by omega) (by omega) (by omega) hx)
   ·obtain ⟨h1,h2,h3⟩:=hi;obtain ⟨ra,rfl,ha⟩:=reg_nat h1;obtain ⟨rb,rfl,hb⟩:=reg_nat h2;obtain ⟨rc,rfl,hc⟩:=reg_nat h3;exact ptold hh hx h20 (exec_sub hh) (pst_sub H hN L ht hh (by omega) (by omega) (by omega) hx)
   ·obtain ⟨h1,h2,h3⟩:=hi;obtain ⟨ra,rfl,ha⟩:=reg_nat h1;obtain ⟨rb,rfl,hb⟩:=reg_nat h2;obtain ⟨rc,rfl,hc⟩:=reg_nat h3;exact ptold hh hx h20 (exec_and hh) (pst_and H hN L ht hh (by omega) (by omega) (by omega) hx)
   ·obtain ⟨h1,h2,h3⟩:=hi;obtain ⟨ra,rfl,ha⟩:=reg_nat h1;obtain ⟨rb,rfl,hb⟩:=reg_nat h2;obtain ⟨rc,rfl,hc⟩:=reg_nat h3;exact ptold hh hx h20 (exec_xor hh) (pst_xor H hN L ht hh (by omega) (by omega) (by omega) hx)
   ·obtain ⟨h1,h2,h3⟩:=hi;obtain ⟨ra,rfl,ha⟩:=reg_nat h1;obtain ⟨rb,rfl,hb⟩:=reg_nat h2;obtain ⟨rc,rfl,hc⟩:=reg_nat h3
    cases hn:m.names (h.regs.getD rb 0)with
    |none=>exact ptold hh hx h20 (by rw[exec_load_none hh hn]) (pst_touch H hN L ht hh h20 rfl rfl rfl rfl rfl rfl rfl rfl rfl rfl rfl (fun W U=>ptouch_load_none (hP W U) hN1 (L.up U) ht1 hh1 h8 (by omega) (by omega) (by omega) hn) hx)
    |some r=>exact ptold hh hx h20 (by rw[exec_load_ok hh (rc:=r.1) (rg:=r.2) hn];rfl) (pst_touch H hN L ht hh h20 rfl rfl rfl rfl rfl rfl rfl rfl rfl rfl rfl (fun W U=>ptouch_load_ok (hP W U) hN1 (L.up U) ht1 hh1 h8 (by omega) (by omega) (by omega) (c:=r.1) (g:=r.2) hn) hx)
   ·obtain ⟨h1,h2,h3⟩:=hi;obtain ⟨ra,rfl,ha⟩:=reg_nat h1;obtain ⟨rb,rfl,hb⟩:=reg_nat h2;obtain ⟨rc,rfl,hc⟩:=reg_nat h3
    cases hn:m.names (h.regs.getD ra 0)with
    |none=>exact ptold hh hx h20 (by rw[exec_store_none hh hn]) (pst_touch H hN L ht hh h20 rfl rfl rfl rfl rfl rfl rfl rfl rfl rfl rfl (fun W U=>ptouch_store_none (hP W U) hN1 (L.up U) ht1 hh1 h8 (by omega) (by omega) (by omega) hn) hx)
    |some r=>
     obtain ⟨l,hl⟩:∃l,m.waits[t]?=some l:=⟨_,List.getElem?_eq_getElem (by rw[H.ot.len];exact ht)⟩;have h88:=H.om.wlen t l hl
     by_cases h9:l.length<8
     ·exact ptold hh hx h20 (by rw[exec_store_ok hh (rc:=r.1) (rg:=r.2) hn hl h9]) (pst_touch H hN L ht hh h20 rfl rfl rfl rfl rfl rfl rfl rfl rfl rfl rfl (fun W U=>ptouch_store_ok (hP W U) hN1 (L.up U) ht1 hh1 h8 (by omega) (by omega) (by omega) (c:=r.1) (g:=r.2) hn hl h9) hx)
     ·obtain ⟨y,q,rfl⟩:∃y q,l=y :: q:=by
       cases l with
       |nil=>simp at h9
       |cons y q=>exact ⟨y,q,rfl⟩
      have h7:q.length=7:=by simp at h88 h9;omega
      cases hin:hereIn m.cells y.c y.g with
      |true=>exact ptold hh hx h20 (by rw[exec_store_full hh (rc:=r.1) (rg:=r.2) hn hl h7 hin];rfl) (pst_touch H hN L ht hh h20 rfl rfl rfl rfl rfl rfl rfl rfl rfl rfl rfl (fun W U=>ptouch_store_full (hP W U) hN1 (L.up U) ht1 hh1 h8 (by omega) (by omega) (by omega) (c:=r.1) (g:=r.2) hn hl h7 hin) hx)
      |false=>exact ptold hh hx h20 (by rw[exec_store_full_bad hh (rc:=r.1) (rg:=r.2) hn hl h7 hin];rfl) (pst_touch H hN L ht hh h20 rfl rfl rfl rfl rfl rfl rfl rfl rfl rfl rfl (fun W U=>ptouch_store_full_bad (hP W U) hN1 (L.up U) ht1 hh1 h8 (by omega) (by omega) (by omega) (c:=r.1) (g:=r.2) hn hl h7 hin) hx)
   ·obtain ⟨h1,h2,h3⟩:=hi;obtain ⟨ra,rfl,ha⟩:=reg_nat h1;obtain ⟨rb,rfl,hb⟩:=reg_nat h2;obtain ⟨rc,rfl,hc⟩:=reg_nat h3
    cases hn:m.names (h.regs.getD rb 0)with
    |none=>exact ptold hh hx h20 (by rw[exec_swap_none hh hn]) (pst_touch H hN L ht hh h20 rfl rfl rfl rfl rfl rfl rfl rfl rfl rfl rfl (fun W U=>ptouch_swap_none (hP W U) hN1 (L.up U) ht1 hh1 h8 (by omega) (by omega) (by omega) hn) hx)
    |some r=>
     obtain ⟨kc,kg⟩:=r;obtain ⟨k,rfl,hk⟩:=names_nat hn;exact ptold hh hx h20 (by rw[exec_swap_ok hh hn];rfl) (pst_touch H hN L ht hh h20 rfl rfl rfl rfl rfl rfl rfl rfl rfl rfl rfl (fun W U=>ptouch_swap_ok (hP W U) hN1 (L.up U) ht1 hh1 h8 (by omega) (by omega) (by omega) hn) hx)
   ·obtain ⟨h1,h2,h3⟩:=hi;obtain ⟨ra,rfl,ha⟩:=reg_nat h1;obtain ⟨rb,rfl,hb⟩:=reg_nat h2;obtain ⟨rc,rfl,hc⟩:=reg_nat h3
    cases hn:m.names (h.regs.getD ra 0)with
    |none=>exact ptold hh hx h20 (by rw[exec_cas_none hh hn]) (pst_touch H hN L ht hh h20 rfl rfl rfl rfl rfl rfl rfl rfl rfl rfl rfl (fun W U=>ptouch_cas_none (hP W U) hN1 (L.up U) ht1 hh1 h8 (by omega) (by omega) (by omega) hn) hx)
    |some r=>
     obtain ⟨kc,kg⟩:=r;obtain ⟨k,rfl,hk⟩:=names_nat hn;exact ptold hh hx h20 (by rw[exec_cas_ok hh hn];rfl) (pst_touch H hN L ht hh h20 rfl rfl rfl rfl rfl rfl rfl rfl rfl rfl rfl (fun W U=>ptouch_cas_ok (hP W U) hN1 (L.up U) ht1 hh1 h8 (by omega) (by omega) (by omega) hn) hx)
   ·obtain ⟨ra,rfl,ha⟩:=reg_nat hi
    cases hal:allocAt m.cells 0 with
    |none=>exact ptold hh hx h20 (by rw[exec_alloc_none hal]) (pst_touch H hN L ht hh h20 rfl rfl rfl rfl rfl rfl rfl rfl rfl rfl rfl (fun W U=>ptouch_alloc_none (hP W U) hN1 (L.up U) ht1 hh1 h8 (by omega) hal) hx)
    |some r=>exact ptold hh hx h20 (by rw[exec_alloc_ok (i:=r.1) (n:=r.2) hal]) (pst_touch H hN L ht hh h20 rfl rfl rfl rfl rfl rfl rfl rfl rfl rfl rfl (fun W U=>ptouch_alloc_ok (hP W U) hN1 (L.up U) ht1 hh1 h8 (by omega) (i:=r.1) (n:=r.2) hal) hx)
   ·obtain ⟨ra,rfl,ha⟩:=reg_nat hi
    cases hn:m.names (h.regs.getD ra 0)with
    |none=>exact ptold hh hx h20 (by rw[exec_free_none hh hn]) (pst_touch H hN L ht hh h20 rfl rfl rfl rfl rfl rfl rfl rfl rfl rfl rfl (fun W U=>ptouch_free_none (hP W U) hN1 (L.up U) ht1 hh1 h8 (by omega) hn) hx)
    |some r=>
     obtain ⟨kc,kg⟩:=r;obtain ⟨k,rfl,hk⟩:=names_nat hn;exact ptold hh hx h20 (by rw[exec_free_ok hh hn];rfl) (pst_touch H hN L ht hh h20 rfl rfl rfl rfl rfl rfl rfl rfl rfl rfl rfl (fun W U=>ptouch_free_ok (hP W U) hN1 (L.up U) ht1 hh1 h8 (by omega) hn) hx)
   ·exact ptold hh hx h20 exec_fence (pst_touch H hN L ht hh h20 rfl rfl rfl rfl rfl rfl rfl rfl rfl rfl rfl (fun W U=>ptouch_fence (hP W U) hN1 (L.up U) ht1 hh1 h8) hx)
   ·exact ptold hh hx h20 (by rw[exec_force];simp[M.setPc]) (pst_touch H hN L ht hh h20 rfl rfl rfl rfl rfl rfl rfl rfl rfl rfl rfl (fun W U=>ptouch_force (hP W U) hN (L.up U) ht1 hh1 h8) hx)
   ·obtain ⟨ra,rfl,ha⟩:=reg_nat hi;obtain ⟨i,hi⟩:=Option.isSome_iff_exists.1 (hlab (.inl rfl))
    by_cases hz:h.regs.getD ra 0=0
    ·exact ptold hh hx h20 (exec_zero_yes hh hi hz) (pst_zero_yes H hN L ht hh (by omega) hz hi hto hx)
    ·exact ptold hh hx h20 (exec_zero_no hh hz) (pst_zero_no H hN L ht hh (by omega) hz hx)
   ·obtain ⟨h1,h2⟩:=hi;obtain ⟨ra,rfl,ha⟩:=reg_nat h1;obtain ⟨rb,rfl,hb⟩:=reg_nat h2;obtain ⟨i,hi⟩:=Option.isSome_iff_exists.1 (hlab (.inr (.inl rfl)))
    by_cases hz:h.regs.getD ra 0=h.regs.getD rb 0
    ·exact ptold hh hx h20 (exec_same_yes hh hi hz) (pst_same_yes H hN L ht hh (by omega) (by omega) hz hi hto hx)
    ·exact ptold hh hx h20 (exec_same_no hh hz) (pst_same_no H hN L ht hh (by omega) (by omega) hz hx)
   ·obtain ⟨i,hi⟩:=Option.isSome_iff_exists.1 (hlab (.inr (.inr rfl)));exact ptold hh hx h20 (exec_goto hh hi) (pst_goto H hN L ht hh hi hto hx)
   ·exact ptold hh hx h20 exec_label (pst_touch H hN L ht hh h20 rfl rfl rfl rfl rfl rfl rfl rfl rfl rfl rfl (fun W U=>ptouch_label (hP W U) hN1 (L.up U) ht1 hh1 h8) hx)
   ·obtain ⟨ra,rfl,ha⟩:=reg_nat hi
    by_cases h5:m.marks.length<500
    ·exact ptold hh hx h20 (exec_mark_ok hh h5) (pst_mark H hN L ht hh (by omega) h5 hx)
    ·exact ptold hh hx h20 (exec_mark_full h5) (pst_mark_full H hN L ht hh (by omega) h5 hx)
   ·obtain ⟨ra,rfl,ha⟩:=reg_nat hi
    by_cases hz:h.regs.getD ra 0=0
    ·exact ptold hh hx h20 (by rw[exec_need hh];unfold needM;rw[if_pos hz]) (pst_need_yes H hN L ht hh (by omega) hz hx)
    ·exact ptold hh hx h20 (by rw[exec_need hh];unfold needM;rw[if_neg hz]) (pst_need_no H hN L ht hh (by omega) hz hx)
   ·have h21:¬op=20:=h20;have:op≤20:=insOk_le hi;omega
end
section
open Go.RowKit Qs Qh
variable {w w1 w2 w' b0:World}{X:XB}{vs vs':List Value}{mv mv':Value}{m m':M}{N:Int}{a:Nat→Addr}
theorem LabsOk.turn(h:LabsOk m)(n:Int):LabsOk (m.turn n).1:=fun t k hk x hx=>by
 obtain ⟨k0,h0,e⟩:=cs_thr (turn_cs m n) hk;rw[e]at hx;exact h t k0 h0 x hx
theorem rem_fix(n k:Int)(hk:0<k):(n.tmod k+k).tmod k=n % k∧-k<n.tmod k∧n.tmod k<k:=by
 have h1:=Int.emod_nonneg n (show k≠0 by omega);have h2:=Int.emod_lt_of_pos n hk
 have h3 : -k<n.tmod k:=by have:=Int.tmod_lt_of_pos (-n) hk;rw[Int.neg_tmod]at this;omega
 have h4:=Int.tmod_lt_of_pos n hk;refine ⟨?_,h3,h4⟩;rw[Int.tmod_eq_emod_of_nonneg (by omega),Int.add_emod_right];have hd:=Int.tmod_add_mul_tdiv n k
 have:n % k=(n.tmod k+k*n.tdiv k) % k:=by rw[hd]
 rw[this,Int.add_mul_emod_self_left]
theorem turn_at'(m:M)(n:Int){q:Nat}(hq:n % (2*(m.T.length:Int))=q):m.turn n=if q<m.T.length then m.step q else m.drain (q - m.T.length):=by
 unfold M.turn;simp only[hq,Int.toNat_natCast]
theorem pturn_any(H:PX w X vs mv m N)(hN:N≤900000000)(L:XLow b0 w a X vs mv)(hLab:LabsOk m)(n:Int)(hlo : -9223372036854775808≤n)(hhi:n≤9223372036854775807) :
  Calls Tryz.prog 66 #[.pointer (some ⟨X.bX,0,none⟩),.int .i64 n] w fun e w'=>e=.returned (.bool (decide ((m.turn n).2=0)))∧∃vs' mv',XUp w X vs mv m w' (m.turn n).1 vs' mv':=by
 obtain ⟨t0,t1,t2,t3,t4,t5⟩:=H.p.top_at;have ht6:=H.t6;have ht1:=H.ot.t1
 have hk:(0:Int)<2*(m.T.length:Int):=by omega
 have hk0:(2*(m.T.length:Int)==0)=false:=by rw[beq_eq_false_iff_ne];omega
 obtain ⟨hfix,hr1,hr2⟩:=rem_fix n (2*(m.T.length:Int)) hk;have h1:=Int.emod_nonneg n (show (2*(m.T.length:Int))≠0 by omega);have h2:=Int.emod_lt_of_pos n hk;obtain ⟨q,hq⟩:=Int.eq_ofNat_of_zero_le h1;have hta:=turn_at' m n hq;rw[hq]at hfix h2;have HX:=Lib.hid H;have HL:=Lib.hid L
 have HLab:=Lib.hid hLab;have Hta:=Lib.hid hta;clear H L hLab hq hta h1;obtain ⟨r,hr⟩:∃r,n.tmod (2*(m.T.length:Int))=r:=⟨_,rfl⟩;rw[hr]at hfix hr1 hr2
 by_cases hqt:q<m.T.length
 ·have hd:decide ((q:Int)<(m.T.length:Int))=true:=by simp;omega
  rw[if_pos hqt]at Hta
  go_enter Tryz.func66,Tryz.ntmps66
  go_wp2_with fail
  refine (pst_any HX.out hN HL.out HLab.out hqt).mono ?_;rintro e w5 ⟨rfl,h5⟩;have H5:=Lib.hid (h5);clear h5
  by_cases hz:(m.step q).2=0
  ·have ez:errOf' a (m.step q).2=.nilIface:=by rw[hz];rfl
   have Hz:=Lib.hid hz;rw[ez];clear hz ez;go_wp2;go_ret;rw[Hta.out];exact ⟨by rw[Hz.out];rfl,H5.out⟩
  ·have ez:errOf' a (m.step q).2=errV a ((m.step q).2.toNat - 1):=by unfold errOf';rw[if_neg hz]
   have hdz:decide ((m.step q).2=0)=false:=by simpa using hz
   have Hz:=Lib.hid hdz;rw[ez];clear hz ez hdz;unfold errV;go_wp2;go_ret;rw[Hta.out];exact ⟨by rw[Hz.out];rfl,H5.out⟩
 ·obtain ⟨p,rfl⟩:∃p,q=m.T.length+p:=⟨q - m.T.length,by omega⟩
  have hp2:p<m.T.length:=by omega
  have hp3:m.T.length+p - m.T.length=p:=by omega
  rw[if_neg hqt,hp3]at Hta;rw[Int.natCast_add]at h2 hfix
  have hd:decide ((m.T.length:Int)+(p:Int)<(m.T.length:Int))=false:=by simp;omega
  have hsub:(m.T.length:Int)+(p:Int) - (m.T.length:Int)=p:=by omega
  clear hp3
  go_enter Tryz.func66,Tryz.ntmps66
  go_wp2_with fail
  refine (pmdrain_any HX.out (by omega) HL.out hp2).mono ?_;rintro e w5 ⟨rfl,h5⟩;have H5:=Lib.hid (show ∃vs' mv',XUp w X vs mv m w5 (m.drain p).1 vs' mv' from h5.elim fun vs1 h=>⟨vs1,mv,h⟩);clear h5
  by_cases hz:(m.drain p).2=0
  ·have ez:errOf' a (m.drain p).2=.nilIface:=by rw[hz];rfl
   have Hz:=Lib.hid hz;rw[ez];clear hz ez;go_wp2;go_ret;rw[Hta.out];exact ⟨by rw[Hz.out];rfl,H5.out⟩
  ·have ez:errOf' a (m.drain p).2=errV a ((m.drain p).2.toNat - 1):=by unfold errOf';rw[if_neg hz]
   have hdz:decide ((m.drain p).2=0)=false:=by simpa using hz
   have Hz:=Lib.hid hdz;rw[ez];clear hz ez hdz;unfold errV;go_wp2;go_ret;rw[Hta.out];exact ⟨by rw[Hz.out];rfl,H5.out⟩
end
section
open Go.RowKit Qs Qh
variable {w w1 w2 w' b0:World}{X:XB}{vs vs':List Value}{mv mv':Value}{m m':M}{N:Int}{a:Nat→Addr}
theorem frameP{w w':World}{F:Nat→Prop}{v:Value}{l:List Int}(h:IntsAt w v l)(hM:Mod F w w')(hF:l≠[]→∀b,v.ownBlock=some b→¬F b):IntsAt w' v l:=by
 by_cases e:l=[]
 ·subst e;obtain ⟨a,c,rfl,hc,hx⟩:=h.at_;exact ⟨a,c,rfl,hc,fun i x hi=>by simp at hi⟩
 ·exact h.frame hM (hF e)
def prunRel(w:World)(X:XB)(vs:List Value)(mv:Value)(m:M)(N:Int)(l:List Int)(k:Nat)(d i:Value)(wr:World):Prop:=
 i=.int .i64 k∧d=.int .i64 (m.run (l.take k)).2∧(∃vs' mv',XUp w X vs mv m wr (m.run (l.take k)).1 vs' mv')∧OkA (N+48*k) (m.run (l.take k)).1∧LabsOk (m.run (l.take k)).1
theorem prun_any(H:PX w X vs mv m N)(hN:N≤800000000)(L:XLow b0 w a X vs mv)(hLab:LabsOk m)(v:Value)(l:List Int)(hl:IntsAt w v l)(hcap:∀a n c,v=.slice a n c→n≤c)(hlen:l.length≤20000)(hw:∀x∈l,-9223372036854775808≤x∧x≤9223372036854775807)(hv:l≠[]→∀b,v.ownBlock=some b→¬XFoot X vs mv b) :
  Calls Tryz.prog 23 #[.pointer (some ⟨X.bX,0,none⟩),v] w fun e w'=>e=.returned (.int .i64 (m.run l).2)∧(∃vs' mv',XUp w X vs mv m w' (m.run l).1 vs' mv')∧OkA (N+48*l.length) (m.run l).1∧LabsOk (m.run l).1:=by
 obtain ⟨ad,c,rfl,hcm,hcell⟩:=hl.at_;have HX:=Lib.hid H;have HL:=Lib.hid L;have HLab:=Lib.hid hLab;have Hl:=Lib.hid hl;have Hw:=Lib.hid hw;have Hv:=Lib.hid hv
 have hmin:¬(20000:Int)<(l.length:Int):=by omega
 unfold maxLen at hcm;have hlc:l.length≤c:=hcap _ _ _ rfl;clear H L hLab hl hw hv hcell hcap
 go_enter Tryz.func23,Tryz.ntmps23
 go_wp2_with fail
 go_loopw [5,7,14] (fun d _ i wr=>∃k:Nat,k≤l.length∧prunRel w X vs mv m N l k d i wr) (fun _ _ i _=>l.length - (intOf i).toNat)
 case atStart=>exact ⟨0,Nat.zero_le _,rfl,rfl,⟨vs,mv,by simpa[M.run]using XUp.quiet HX.out.p (Mod.refl _ _)⟩,by show OkA (N+48*((0:Nat):Int)) m;exact OkA.mono ⟨HX.out.om,HX.out.ot⟩ (by omega),HLab.out⟩
 case round=>
  rename_i wr
  obtain ⟨k,hk,rfl,rfl,⟨vs1,mv1,U⟩,hok,hlab⟩:=hrel;obtain ⟨wo,rfl⟩:∃wo:World,wo=wr:=⟨_,rfl⟩;have hd0:=M.run_two m (l.take k);have hlk:(l.take k).length≤k:=List.length_take_le _ _;generalize hmr:m.run (l.take k)=mr at *;obtain ⟨m1,d1⟩:=mr;simp only at hd0 U hok hlab;have Hmr:=Lib.hid hmr
  have HU:=Lib.hid U;have Hok:=Lib.hid hok;have Hlab:=Lib.hid hlab;obtain ⟨hd0,hd1⟩:=hd0
  have hd2:d1≤20000:=by omega
  clear hmr U hlk hok hlab
  by_cases hlt:k<l.length
  ·have hd:decide ((k:Int)<(l.length:Int))=true:=by simp;omega
   have hki:(k:Int)<(l.length:Int):=by omega
   obtain ⟨x,hx⟩:∃x,l[k]?=some x:=⟨_,List.getElem?_eq_getElem hlt⟩;obtain ⟨hw0,hw1⟩:=Hw.out x (List.mem_of_getElem? hx);obtain ⟨_,_,e',_,hcell⟩:=(frameP Hl.out HU.out.mod Hv.out).at_;cases e';obtain ⟨b,off,rfl,hb,hc⟩:=hcell k x hx
   have hcall:=pturn_any ⟨HU.out.rep,Hok.out.1,Hok.out.2⟩ (by omega) (HL.out.up HU.out) Hlab.out x hw0 hw1
   have htk:l.take (k+1)=l.take k++[x]:=by rw[List.take_succ_eq_append_getElem hlt];rw[List.getElem?_eq_getElem hlt]at hx;cases hx;rfl
   have hsn:=M.run_snoc m (l.take k) x;rw[←htk,Hmr.out]at hsn;have Hsn:=Lib.hid hsn;have Hcall:=Lib.hid hcall;clear hx hcell hcall htk hsn
   go_wp2_with fail
   refine Hcall.out.mono ?_;rintro e w5 ⟨rfl,vs2,mv2,U5⟩;have HU5:=Lib.hid U5;clear U5
   by_cases hz:(m1.turn x).2=0
   ·have Hz:=Lib.hid hz
    have ez:decide ((m1.turn x).2=0)=true:=by simpa using hz
    rw[ez];clear hz ez;go_wp2
    go_roundw
    case rel=>
     refine ⟨k+1,by omega,by go_num,?_,⟨vs2,mv2,?_⟩,?_,?_⟩
     ·rw[Hsn.out,if_pos Hz.out]
     ·rw[Hsn.out];exact HU.out.trans HU5.out
     ·rw[Hsn.out];exact (Hok.out.turn x).mono (by omega)
     ·rw[Hsn.out];exact Hlab.out.turn x
    case measure=>simp[intOf];omega
   ·have Hz:=Lib.hid hz
    have ez:decide ((m1.turn x).2=0)=false:=by simpa using hz
    rw[ez];clear hz ez;go_wp2
    go_roundw
    case rel=>
     refine ⟨k+1,by omega,by go_num,?_,⟨vs2,mv2,?_⟩,?_,?_⟩
     ·rw[Hsn.out];simp only;rw[if_neg Hz.out];simp
     ·rw[Hsn.out];exact HU.out.trans HU5.out
     ·rw[Hsn.out];exact (Hok.out.turn x).mono (by omega)
     ·rw[Hsn.out];exact Hlab.out.turn x
    case measure=>simp[intOf];omega
  ·have hd:decide ((k:Int)<(l.length:Int))=false:=by simp;omega
   obtain rfl:k=l.length:=by omega
   have htk:l.take l.length=l:=List.take_length;rw[htk]at Hmr;clear htk;go_wp2;go_ret;rw[Hmr.out];exact ⟨rfl,⟨vs1,mv1,HU.out⟩,Hok.out,Hlab.out⟩
end
section
open Go.RowKit Qs Qh
structure NB where
 X:XB
 vs:List Value
 mv:Value
 d:Nd
 live:Bool
def nodeVals(_:Nat)(x:NB):List Value:=[.pointer (if x.live then some ⟨x.X.bX,0,none⟩else none),iv x.d.src,iv x.d.by_]
theorem nodeVals_len(s:Nat)(x:NB):(nodeVals s x).length=3:=rfl
def machTypes:List TypeId:=[87,99,78,107,196,220,180,182]
variable {b0 w w1 w2 w':World}{b1 i:Nat}{a:Nat→Addr}{X:XB}{vs:List Value}{mv:Value}{m:M}{N:Int}{l:List NB}{ks:List (List Nat)}{ends:Nat}{lv lv':Value}{bm be bs bt:Nat}
theorem PMach.blk(h:PMach w X vs mv m){x:Nat}(hx:XFoot X vs mv x):∃c T,w.heap[x]?=some (.cells c T (0,0))∧T∈machTypes:=by
 rcases hx with rfl|rfl|hx|hx
 ·exact ⟨_,_,h.top,by decide⟩
 ·obtain ⟨j,hj⟩:=h.thr;exact ⟨_,_,hj,by decide⟩
 ·obtain ⟨c,T,h1,h2⟩:=h.mem.blk hx;refine ⟨c,T,h1,?_⟩;simp only[List.mem_cons,List.not_mem_nil,or_false]at h2
  rcases h2 with rfl|rfl|rfl|rfl|rfl <;> decide
 ·obtain ⟨c,hc⟩:=off_blk h.marks hx;exact ⟨c,_,hc,by decide⟩
structure NodeAt(b0 w:World)(b1:Nat)(a:Nat→Addr)(X:XB)(vs:List Value)(mv:Value)(m:M)(N:Int):Prop where
 px:PX w X vs mv m N
 low:XLow b0 w a X vs mv
 labs:LabsOk m
 code:∀(t:Nat) h,m.T[t]?=some h→(∀g,(X.cv t).ownBlock=some g→g<b1)∧X.mb t<b1
def Beside(w:World)(b1:Nat)(F:Nat→Prop):Prop:=∀x,F x→b1≤x∧∀c T,w.heap[x]?=some (.cells c T (0,0))→T ∉ machTypes
theorem beside0:Beside w b1 noF:=fun x h=>h.elim
theorem NodeAt.keep{F:Nat→Prop}(h:NodeAt b0 w b1 a X vs mv m N)(hM:Mod F w w')(hF:Beside w b1 F)(hb:b0.heap.size≤b1):NodeAt b0 w' b1 a X vs mv m N:=
 ⟨⟨h.px.p.keep hM (fun x hx e=>by
   obtain ⟨c,T,h1,h2⟩:=h.px.p.blk hx
   exact (hF x e).2 c T h1 h2) (fun t k hk=>⟨fun g hg e=>by have:=(hF g e).1;have:=(h.code t k hk).1 g hg;omega,fun e=>by have:=(hF _ e).1;have:=(h.code t k hk).2;omega⟩),h.px.om,h.px.ot⟩,
  ⟨h.low.errs,h.low.mod.trans hM (fun x hx e=>by have:=(hF x e).1;omega),h.low.low⟩,h.labs,h.code⟩
theorem NodeAt.keep0(h:NodeAt b0 w b1 a X vs mv m N)(hM:Mod noF w w')(hb:b0.heap.size≤b1):NodeAt b0 w' b1 a X vs mv m N:=h.keep hM beside0 hb
structure EachAt(b0 w:World)(b1:Nat)(a:Nat→Addr)(l:List NB)(ks:List (List Nat))(ends:Nat)(lv:Value)(bm be bs bt:Nat):Prop where
 b01:b0.heap.size≤b1
 row:w.ownsRow 0 187 3 lv l.length (flat nodeVals 0 l)
 rlo:∀g,lv.ownBlock=some g→b1≤g
 seen:SeenAt w bm ks
 mlo:b1≤bm
 cnt:w.heap[be]?=some (.cells #[.int .i64 ends] 3 (0,0))
 elo:b1≤be
 see:w.heap[bs]?=some (.cells #[.func (.func 69) #[] #[]] 139 (0,0))
 slo:bs<b1
 told:w.heap[bt]?=some (.cells #[.int .i64 0,.int .i64 0,.bool false,.slice none 0 0] 62 (0,0))
 tlo:bt<b1
 node:∀(j:Nat) x,l[j]?=some x→x.live=true→NodeAt b0 w b1 a x.X x.vs x.mv x.d.m (1+48*(j:Int))
theorem EachAt.keep0(h:EachAt b0 w b1 a l ks ends lv bm be bs bt)(hM:Mod noF w w'):EachAt b0 w' b1 a l ks ends lv bm be bs bt:=
 ⟨h.b01,rowMod h.row hM (fun _ _ e=>e),h.rlo,h.seen.keep hM (fun e=>e),h.mlo,hM.heap h.cnt (fun e=>e),h.elo,hM.heap h.see (fun e=>e),h.slo,hM.heap h.told (fun e=>e),h.tlo,fun j x hx hl=>(h.node j x hx hl).keep0 hM h.b01⟩
theorem EachAt.beM(h:EachAt b0 w b1 a l ks ends lv bm be bs bt):Beside w b1 (fun x=>x=bm):=fun x e=>by
 subst e;exact ⟨h.mlo,fun c T e=>absurd e h.seen.noCells⟩
theorem EachAt.beE(h:EachAt b0 w b1 a l ks ends lv bm be bs bt):Beside w b1 (fun x=>x=be):=fun x e=>by
 subst e;refine ⟨h.elo,fun c T e=>?_⟩;rw[h.cnt]at e;cases e;decide
theorem EachAt.beL(h:EachAt b0 w b1 a l ks ends lv bm be bs bt):Beside w b1 (fun x=>lv.ownBlock=some x):=fun x e=>by
 refine ⟨h.rlo x e,fun c T e2=>?_⟩;obtain ⟨d,hd⟩:=row_blk h.row e;rw[hd]at e2;cases e2;decide
theorem EachAt.nLM(h:EachAt b0 w b1 a l ks ends lv bm be bs bt):∀g,lv.ownBlock=some g→g≠bm∧g≠be:=fun g hg=>by
 obtain ⟨d,hd⟩:=row_blk h.row hg;exact ⟨fun e=>h.seen.noCells (e ▸ hd),ne_types hd h.cnt (by decide)⟩
theorem EachAt.nME(h:EachAt b0 w b1 a l ks ends lv bm be bs bt):bm≠be:=fun e=>h.seen.noCells (e ▸ h.cnt)
theorem EachAt.putKey(h:EachAt b0 w b1 a l ks ends lv bm be bs bt){ks':List (List Nat)}(hM:Mod (fun x=>x=bm) w w')(hs:SeenAt w' bm ks'):EachAt b0 w' b1 a l ks' ends lv bm be bs bt:=
 ⟨h.b01,rowMod h.row hM (fun g hg=>(h.nLM g hg).1),h.rlo,hs,h.mlo,hM.heap h.cnt (fun e=>h.nME e.symm),h.elo,hM.heap h.see (fun e=>by have:=h.slo;have:=h.mlo;omega),h.slo,hM.heap h.told (fun e=>by have:=h.tlo;have:=h.mlo;omega),h.tlo,
  fun j x hx hl=>(h.node j x hx hl).keep hM h.beM h.b01⟩
theorem EachAt.setEnds(h:EachAt b0 w b1 a l ks ends lv bm be bs bt)(n:Nat):EachAt b0 (w.setCell ⟨be,0,none⟩ (.int .i64 (n:Int))) b1 a l ks n lv bm be bs bt:=by
 have hM:Mod (fun x=>x=be) w (w.setCell ⟨be,0,none⟩ (.int .i64 (n:Int))):=(Mod.refl (fun x=>x=be) w).setCell (fun _=>rfl) _
 exact ⟨h.b01,rowMod h.row hM (fun g hg=>(h.nLM g hg).2),h.rlo,h.seen.keep hM h.nME,h.mlo,by rw[Qh.heap_setCell_same h.cnt];simp,h.elo,hM.heap h.see (fun e=>by have:=h.slo;have:=h.elo;omega),h.slo,hM.heap h.told (fun e=>by have:=h.tlo;have:=h.elo;omega),h.tlo,
  fun j x hx hl=>(h.node j x hx hl).keep hM h.beE h.b01⟩
theorem flat_end{α : Type}(f:Nat→α→List Value)(x : α):∀(l:List α) (s:Nat),flat f s (l++[x])=flat f s l++f (s+l.length) x
 |[],s=>by simp[flat]
 |y :: l,s=>by
  rw[List.cons_append,flat,flat_end f x l (s+1),flat,List.append_assoc,List.length_cons]
  congr 3
  omega
theorem EachAt.push(h:EachAt b0 w b1 a l ks ends lv bm be bs bt){y:NB}(hM1:Mod noF w w1)(hown:w2.ownsRow 0 187 3 lv' (l.length+1) (flat nodeVals 0 l++nodeVals l.length y))(hM2:Mod (fun x=>lv.ownBlock=some x) w1 w2)
  (hfr:∀g,lv'.ownBlock=some g→lv.ownBlock=some g∨w1.heap.size≤g) (hy:NodeAt b0 w b1 a y.X y.vs y.mv y.d.m (1+48*(l.length:Int))) (hb1:b1≤w.heap.size) :
  EachAt b0 w2 b1 a (l++[y]) ks ends lv' bm be bs bt:=by
 have h1:=h.keep0 hM1;have hbl:=h1.beL;have hs:=hM1.size
 refine ⟨h.b01,?_,fun g hg=>(hfr g hg).elim (h.rlo g) (fun e=>by omega),h1.seen.keep hM2 (fun e=>(h.nLM _ e).1 rfl),h.mlo,hM2.heap h1.cnt (fun e=>(h.nLM _ e).2 rfl),h.elo,hM2.heap h1.see (fun e=>by have:=h.rlo _ e;have:=h.slo;omega),h.slo,
  hM2.heap h1.told (fun e=>by have:=h.rlo _ e;have:=h.tlo;omega),h.tlo,fun j x hx hl=>?_⟩
 ·rw[List.length_append,List.length_singleton,flat_end,Nat.zero_add];exact hown
 ·rw[List.getElem?_append]at hx
  by_cases e:j<l.length
  ·rw[if_pos e]at hx;exact (h1.node j x hx hl).keep hM2 hbl h.b01
  ·rw[if_neg e]at hx
   have e0:j - l.length=0:=by have:=(List.getElem?_eq_some_iff.1 hx).1;simp at this;omega
   rw[e0]at hx;cases hx
   obtain rfl:j=l.length:=by omega
   exact (hy.keep0 hM1 h.b01).keep hM2 hbl h.b01
theorem row_set{T:TypeId}{size n g cap:Nat}{xs:List Value}(h:w.ownsRow 0 T size (.slice (some ⟨g,0,none⟩) n cap) n xs){j:Nat}(hj:j<n*size)(u:Value):(w.setCell ⟨g,j,none⟩ u).ownsRow 0 T size (.slice (some ⟨g,0,none⟩) n cap) n (xs.set j u):=by
 refine ⟨by rw[List.length_set];exact h.1,?_⟩
 rcases h.2 with ⟨e,-⟩|⟨g',cap',cur,e,hb,hg,h1,h2,h3,h4⟩
 ·simp at e
 ·simp only[Value.slice.injEq,Option.some.injEq,Addr.mk.injEq,true_and,and_true]at e;obtain ⟨rfl,rfl⟩:=e;refine .inr ⟨g,cap,cur.setIfInBounds j u,rfl,hb,?_,h1,h2,by simpa using h3,?_⟩
  ·exact Qh.heap_setCell_same hg j u
  ·rw[←h4];simp[List.take_set]
theorem EachAt.drop(h:EachAt b0 w b1 a l ks ends lv bm be bs bt){g n cap:Nat}(hlv:lv=.slice (some ⟨g,0,none⟩) n cap){i:Nat}{x:NB}(hx:l[i]?=some x) :
  EachAt b0 (w.setCell ⟨g,i*3,none⟩ (.pointer none)) b1 a (l.set i {x with live:=false}) ks ends lv bm be bs bt:=by
 have hM:Mod (fun x=>lv.ownBlock=some x) w (w.setCell ⟨g,i*3,none⟩ (.pointer none)):=(Mod.refl (fun x=>lv.ownBlock=some x) w).setCell (fun _=>by rw[hlv];rfl) _;have hi:=(List.getElem?_eq_some_iff.1 hx).1
 refine ⟨h.b01,?_,h.rlo,h.seen.keep hM (fun e=>(h.nLM _ e).1 rfl),h.mlo,hM.heap h.cnt (fun e=>(h.nLM _ e).2 rfl),h.elo,hM.heap h.see (fun e=>by have:=h.rlo _ e;have:=h.slo;omega),h.slo,
  hM.heap h.told (fun e=>by have:=h.rlo _ e;have:=h.tlo;omega),h.tlo,fun j y hy hl=>?_⟩
 ·obtain ⟨a',c',e,-,-⟩:=(own_off h.row).slice;rw[hlv]at e;simp only[Value.slice.injEq]at e;obtain ⟨-,rfl,-⟩:=e;have hr:=h.row;rw[hlv]at hr ⊢;rw[List.length_set];have:=row_set hr (j:=i*3) (by omega) (.pointer none)
  have hfs:=flat_set nodeVals 3 nodeVals_len (j:=0) (by omega) (.pointer none) l 0 i x {x with live:=false} hx (by simp[nodeVals]) [];rw[List.append_nil,List.append_nil,Nat.add_zero]at hfs;rw[←hfs];exact this
 ·rw[List.getElem?_set]at hy
  split at hy
  ·cases hy;simp at hl
  ·exact (h.node j y hy hl).keep hM h.beL h.b01
end
section
open Go.RowKit Qs Qh
variable {b0 w w1 w2 w':World}{b1 i:Nat}{a:Nat→Addr}{X:XB}{vs:List Value}{mv:Value}{m:M}{N:Int}{l:List NB}{ks:List (List Nat)}{ends:Nat}{lv lv':Value}{bm be bs bt:Nat}
theorem key_bytes(H:PX w X vs mv m N)(hN:N≤1000000000):Bytes m.key:=by
 have hwt:∀q∈m.waits,(rowTold q).length≤33∧∀n∈rowTold q,n<128 ^ 9:=fun q hq=>by
  obtain ⟨t,ht⟩:=List.mem_iff_getElem?.1 hq;refine row_nums (H.om.wlen t q ht) fun x hx=>?_;obtain ⟨a1,a2,a3,a4,a5,a6,a7⟩:=H.om.wval t q ht x hx;have a8:=word_nat a1;have a9:=H.om.cells;obtain ⟨c,g,i,v⟩:=x
  exact ⟨c.toNat,g.toNat,i.toNat,v.toNat,by simp only at *;rw[Int.toNat_of_nonneg a4,Int.toNat_of_nonneg a6,Int.toNat_of_nonneg a2,Int.toNat_of_nonneg a8.1],by simp only at *;omega,by simp only at *;omega,by simp only at *;omega,by simp only at *;omega⟩
 have hct:∀c∈m.cells,c.told.length≤6∧∀n∈c.told,n<128 ^ 9:=fun c hc=>by
  obtain ⟨i,hi⟩:=List.mem_iff_getElem?.1 hc;exact cell_nums (H.om.words i c hi).1 (fun v hv=>word_nat ((H.om.words i c hi).2 v hv)) ⟨(H.om.times i c hi).1,Int.le_trans (H.om.times i c hi).2 hN⟩
 have htt:∀h∈m.T,h.told.length≤9∧∀n∈h.told,n<128 ^ 9:=fun h hh=>by
  obtain ⟨t,ht⟩:=List.mem_iff_getElem?.1 hh;have h1:=(H.ot.code t h ht).1;have h2:=(H.ot.code t h ht).2.len;exact thr_nums (H.ot.regs t h ht) (by omega)
 obtain ⟨c1,c2⟩:=flat_nums (f:=Cell.told) (m:=6) (l:=m.cells) hct;obtain ⟨r1,r2⟩:=flat_nums (f:=rowTold) (m:=33) (l:=m.waits) hwt;obtain ⟨t1,t2⟩:=flat_nums (f:=Thr.told) (m:=9) (l:=m.T) htt;have h1:=H.om.cells;have h2:=H.om.waits;have h3:=H.t6
 have hall:∀n∈m.told,n<128 ^ 9:=fun n hn=>by
  unfold M.told at hn
  rcases List.mem_append.1 hn with h|h
  ·rcases List.mem_append.1 h with h|h
   ·exact c2 n h
   ·exact r2 n h
  ·exact t2 n h
 have hlen:m.told.length≤1000:=by
  unfold M.told;simp only[List.length_append];omega
 refine ⟨?_,vint_bytes hall⟩;have:=nums_len hall;unfold M.key;omega
theorem all1_any(v:Value)(w:World):Calls Tryz.prog 69 #[v] w fun e w'=>e=.returned (.tuple #[])∧w=w':=by
 go_enter Tryz.func69,Tryz.ntmps69
 go_wp2
 go_end0
 exact ⟨rfl,rfl⟩
theorem note_any(E:EachAt b0 w b1 a l ks ends lv bm be bs bt)(H:PX w X vs mv m N)(he:ends≤1000000) :
  Calls Tryz.prog 107 #[.pointer (some ⟨X.bX,0,none⟩),.pointer (some ⟨be,0,none⟩),.pointer (some ⟨bs,0,none⟩)] w fun e w'=>e=.returned (.tuple #[])∧EachAt b0 w' b1 a l ks (ends+(if m.rest then 1 else 0)) lv bm be bs bt∧Mod (fun x=>x=be) w w':=by
 have hr:=prest_any H;have HE:=Lib.hid E;have HR:=Lib.hid hr;clear E H hr;obtain ⟨r,hr⟩:∃r,r=(if m.rest then 1 else 0):=⟨_,rfl⟩;rw[←hr];have Hr:=Lib.hid hr;clear hr
 go_enter Tryz.func107,Tryz.ntmps107
 go_wp2_with fail
 refine HR.out.mono ?_;rintro e w1 ⟨rfl,hm1⟩;have E1:=HE.out.keep0 hm1;have c0:w1.cell? ⟨be,0,none⟩=some (.int .i64 (ends:Int)):=(cell_of_heap E1.cnt 0).trans rfl;have f0:=free_of_heap E1.cnt 0;have l0:=lt_of_block E1.cnt;have HE1:=Lib.hid E1
 cases hrest:m.rest with
 |true=>
  have E2:=E1.setEnds (ends+1);have s0:(w1.setCell ⟨be,0,none⟩ (.int .i64 ((ends+1:Nat):Int))).cell? ⟨bs,0,none⟩=some (.func (.func 69) #[] #[]):=(cell_of_heap E2.see 0).trans rfl;have sl:=lt_of_block E2.see;rw[show ((ends+1:Nat):Int)=(ends:Int)+1 by omega]at s0 sl E2
  have HE2:=Lib.hid E2;have hM:Mod (fun x=>x=be) w (w1.setCell ⟨be,0,none⟩ (.int .i64 ((ends:Int)+1))):=(hm1.any (F:=fun x=>x=be)).setCell (fun _=>rfl) _;have HM:=Lib.hid hM;clear E1 E2 hm1 hM
  go_wp2_with fail
  refine (all1_any _ _).mono ?_;rintro e w2 ⟨rfl,rfl⟩;go_wp2
  go_end0
  have e:=Hr.out;rw[hrest,if_pos rfl]at e;rw[e];exact ⟨rfl,HE2.out,HM.out⟩
 |false=>
  have s0:w1.cell? ⟨bs,0,none⟩=some (.func (.func 69) #[] #[]):=(cell_of_heap E1.see 0).trans rfl;have sl:=lt_of_block E1.see;have HM:=Lib.hid (hm1.any (F:=fun x=>x=be));clear E1 hm1
  go_wp2_with fail
  refine (all1_any _ _).mono ?_;rintro e w2 ⟨rfl,rfl⟩;go_wp2
  go_end0
  have e:=Hr.out;rw[hrest,if_neg (by decide)]at e;rw[e];exact ⟨rfl,HE1.out,HM.out⟩
end
section
open Go.RowKit Qs Qh
variable {b0 w w1 w2 w4 w5 w6 wK wP w':World}{b1 i:Nat}{a:Nat→Addr}{X X1:XB}{vs vs1 vs2:List Value}{mv mv1 mv2:Value}{m:M}{N:Int}{l:List NB}{ks:List (List Nat)}{ends:Nat}{lv lv':Value}{bm be bs bt:Nat}
theorem EachAt.init(hN:NodeAt b0 w4 w4.heap.size a X vs mv m 1)(hb:b0.heap.size≤w4.heap.size)(hB:w4.heap[bs]?=some (.cells #[.func (.func 69) #[] #[]] 139 (0,0)))
  (hC:w4.heap[bt]?=some (.cells #[.int .i64 0,.int .i64 0,.bool false,.slice none 0 0] 62 (0,0)))
  (hmK:Mod noF ((w4.alloc (.cells #[.pointer (some ⟨X.bX,0,none⟩),.int .i64 (-1),.int .i64 0] 187)).alloc (.map #[] 0)) wK) (hseen:SeenAt wP (w4.heap.size+1) [m.key]) (hmP:Mod (fun x=>x=w4.heap.size+1) wK wP) :
  EachAt b0 (wP.alloc (.cells #[.int .i64 0] 3)) w4.heap.size a [⟨X,vs,mv,⟨m,-1,0⟩,true⟩] [m.key] 0 (.slice (some ⟨w4.heap.size,0,none⟩) 1 1) (w4.heap.size+1) wP.heap.size bs bt∧
  Mod noF w4 (wP.alloc (.cells #[.int .i64 0] 3)):=by
 have h1:Mod noF w4 wK:=(((Mod.refl noF w4).alloc _).alloc _).trans0 hmK;have h2:Mod noF w4 wP:=h1.trans hmP (fun x hx e=>by omega);have h4:=h2.alloc (.cells #[.int .i64 0] 3);have hs:=h2.size;have h5:=h4
 have hsz:w4.heap.size<wK.heap.size∧w4.heap.size+1<wK.heap.size:=by
  have:=hmK.size;simp at this;omega
 have hsP:=hmP.size
 have hg:wK.heap[w4.heap.size]?=some (.cells #[.pointer (some ⟨X.bX,0,none⟩),.int .i64 (-1),.int .i64 0] 187 (0,0)):=
  hmK.heap (((Mod.refl noF _).alloc _).heap (heap_alloc_new w4 _) (fun e=>e)) (fun e=>e)
 have hgP:=hmP.heap hg (fun e=>by omega);have hgA:=((Mod.refl noF wP).alloc (.cells #[.int .i64 0] 3)).heap hgP (fun e=>e);have hgI:=hgA
 refine ⟨⟨hb,⟨by simp[flat,nodeVals],.inr ⟨w4.heap.size,1,_,rfl,Nat.zero_le _,hgI,by simp,by unfold maxLen;omega,by simp,by simp[flat,nodeVals,iv]⟩⟩,fun g hg=>by simp[Value.ownBlock]at hg;omega,?_,by omega,?_,hs,h5.heap hB (fun e=>e),lt_of_block hB,h5.heap hC (fun e=>e),lt_of_block hC,fun j x hx hl=>?_⟩,h5⟩
 ·exact hseen.keep ((Mod.refl noF wP).alloc (.cells #[.int .i64 0] 3)) (fun e=>e)
 ·exact heap_alloc_new wP _
 ·match j,hx with
  |0,hx=>
   cases hx;exact hN.keep0 h5 hb
  |j+1,hx=>simp at hx
theorem EachAt.lvAt(h:EachAt b0 w b1 a l ks ends lv bm be bs bt)(h1:1≤l.length):∃g cap,lv=.slice (some ⟨g,0,none⟩) l.length cap∧g<w.heap.size∧(∀j,w.frozen? ⟨g,j,none⟩=false)∧
  ∀(j:Nat) x,l[j]?=some x→w.cell? ⟨g,j*3,none⟩=some (.pointer (if x.live then some ⟨x.X.bX,0,none⟩else none))∧w.cell? ⟨g,j*3+1,none⟩=some (.int .i64 x.d.src)∧w.cell? ⟨g,j*3+2,none⟩=some (.int .i64 x.d.by_):=by
 have hr:=h.row
 rcases hr.2 with ⟨-,e0⟩|⟨g,cap,cur,e,-,hg,-⟩
 ·omega
 ·obtain ⟨g',s,c',e',hl,hf,hc⟩:=(own_off hr).cell (by omega);rw[e]at e';cases e';refine ⟨g,cap,e,hl,hf,fun j x hx=>?_⟩
  have hget:∀(q:Nat) (u:Value),q<3→(nodeVals 0 x)[q]?=some u→(flat nodeVals 0 l)[j*3+q]?=some u:=fun q u hq hu=>by
   have:=flat_get nodeVals 3 nodeVals_len hq l 0 j x hx [];rw[List.append_nil]at this;rw[this];exact hu
  have c0:=hc (j*3+0) _ (hget 0 _ (by omega) rfl);have c1:=hc (j*3+1) _ (hget 1 _ (by omega) rfl);have c2:=hc (j*3+2) _ (hget 2 _ (by omega) rfl);rw[Nat.zero_add]at c0 c1 c2;exact ⟨c0,c1,c2⟩
theorem NodeAt.child(h:NodeAt b0 w b1 a X vs mv m N)(hN:N≤100000000)(P:PX w5 X1 vs1 mv1 m N)(hcv:X1.cv=X.cv)(hmb:X1.mb=X.mb)(hm5:Mod noF w w5)(hf:∀x,XFoot X1 vs1 mv1 x→w.heap.size≤x)(hbw:b1≤w.heap.size)(hb:b0.heap.size≤b1)(k:Int)
  (U:XUp w5 X1 vs1 mv1 m w6 (m.turn k).1 vs2 mv2):NodeAt b0 w6 b1 a X1 vs2 mv2 (m.turn k).1 (N+48)∧Mod noF w w6:=by
 have hok:=(show OkA N m from ⟨P.om,P.ot⟩).turn k;have hL:XLow b0 w5 a X1 vs1 mv1:=⟨h.low.errs,h.low.mod.trans0 hm5,fun x hx=>by have:=hf x hx;omega⟩;refine ⟨⟨⟨U.rep,hok.1,hok.2⟩,hL.up U,h.labs.turn k,fun t h' ht=>?_⟩,?_⟩
 ·obtain ⟨k0,hk0,-⟩:=cs_thr (turn_cs m k) ht;rw[hcv,hmb];exact h.code t k0 hk0
 ·exact ((hm5.any (F:=XFoot X1 vs1 mv1)).trans U.mod (fun _ _ e=>e)).mono fun x hx e=>by
   have:=hf x e;omega
structure WInv(b0 wr:World)(b1:Nat)(a:Nat→Addr)(i:Nat)(l:List NB)(ends:Nat)(lv:Value)(bm be bs bt mo t:Nat):Prop where
 E:EachAt b0 wr b1 a l (l.map (·.d.m.key)) ends lv bm be bs bt
 live:∀(j:Nat) x,i≤j→l[j]?=some x→x.live=true
 le:l.length≤mo
 en:ends≤l.length
 thr:∀x∈l,x.d.m.T.length=t
 mod:Mod noF b0 wr
 src:SrcOk (l.map (·.d))
theorem WInv.keep0{mo t:Nat}(h:WInv b0 w b1 a i l ends lv bm be bs bt mo t)(hM:Mod noF w w'):WInv b0 w' b1 a i l ends lv bm be bs bt mo t:=⟨h.E.keep0 hM,h.live,h.le,h.en,h.thr,h.mod.trans0 hM,h.src⟩
theorem map_drop{x:NB}(hx:l[i]?=some x){β : Type}(f:Nd→β):(l.set i {x with live:=false}).map (fun y=>f y.d)=l.map (fun y=>f y.d):=by
 rw[List.map_set];refine List.ext_getElem? fun j=>?_;rw[List.getElem?_set]
 split
 ·rename_i e
  subst e
  split
  ·rw[List.getElem?_map,hx];rfl
  ·rename_i h
   rw[List.getElem?_map,hx];exact absurd (List.getElem?_eq_some_iff.1 hx).1 (by simpa using h)
 ·rfl
theorem WInv.drop{mo t g n cap:Nat}{x:NB}(h:WInv b0 w b1 a i l ends (.slice (some ⟨g,0,none⟩) n cap) bm be bs bt mo t)(hx:l[i]?=some x) :
  WInv b0 (w.setCell ⟨g,i*3,none⟩ (.pointer none)) b1 a (i+1) (l.set i {x with live:=false}) ends (.slice (some ⟨g,0,none⟩) n cap) bm be bs bt mo t∧
  ∀ {X:XB} {vs:List Value} {mv:Value} {m:M} {N:Int},NodeAt b0 w b1 a X vs mv m N→NodeAt b0 (w.setCell ⟨g,i*3,none⟩ (.pointer none)) b1 a X vs mv m N:=by
 have hM:Mod (fun x=>(Value.slice (some ⟨g,0,none⟩) n cap).ownBlock=some x) w (w.setCell ⟨g,i*3,none⟩ (.pointer none)):=(Mod.refl (fun x=>(Value.slice (some ⟨g,0,none⟩) n cap).ownBlock=some x) w).setCell (fun _=>by rfl) _
 refine ⟨⟨?_,fun j y hj hy=>?_,by rw[List.length_set];exact h.le,by rw[List.length_set];exact h.en,fun y hy=>?_,h.mod.trans hM (fun x hx e=>by have:=h.E.rlo x e;have:=h.E.b01;omega),by have e:=map_drop hx (fun d=>d);have e':(l.set i {x with live:=false}).map (·.d)=l.map (·.d):=e;rw[e'];exact h.src⟩,fun hn=>hn.keep hM h.E.beL h.E.b01⟩
 ·have:=h.E.drop rfl hx;rw[←map_drop hx (fun d=>d.m.key)]at this;exact this
 ·rw[List.getElem?_set,if_neg (by omega)]at hy;exact h.live j y (by omega) hy
 ·rcases List.mem_or_eq_of_mem_set hy with e|e
  ·exact h.thr y e
  ·rw[e];exact h.thr x (List.mem_of_getElem? hx)
theorem WInv.more{mo t:Nat}{y:NB}(h:WInv b0 w b1 a i l ends lv bm be bs bt mo t)(hne:l.length≠mo)(hy:y.live=true)(ht:y.d.m.T.length=t)(hsrc:y.d.src<(l.length:Int))(hE:EachAt b0 w' b1 a (l++[y]) (l.map (·.d.m.key)++[y.d.m.key]) (ends+(if y.d.m.rest then 1 else 0)) lv' bm be bs bt)(hM:Mod noF b0 w') :
  WInv b0 w' b1 a i (l++[y]) (ends+(if y.d.m.rest then 1 else 0)) lv' bm be bs bt mo t:=by
 have h1:=h.le;have h2:=h.en;refine ⟨by rw[List.map_append];exact hE,fun j x hj hx=>?_,by rw[List.length_append];simp;omega,by rw[List.length_append];simp;split <;> omega,fun x hx=>?_,hM,fun j x hx=>?_⟩
 ·rw[List.getElem?_append]at hx
  split at hx
  ·exact h.live j x hj hx
  ·have:=List.mem_of_getElem? hx;simp at this;rw[this];exact hy
 ·rcases List.mem_append.1 hx with e|e
  ·exact h.thr x e
  ·simp at e;rw[e];exact ht
 ·rw[List.map_append,List.getElem?_append]at hx
  split at hx
  ·exact h.src j x hx
  ·rename_i hj
   have hl:=(List.getElem?_eq_some_iff.1 hx).1;simp only[List.length_map,List.length_cons,List.length_nil,List.map_cons,List.map_nil]at hl hj
   obtain rfl:j=l.length:=by omega
   simp at hx;rw[←hx];exact hsrc
theorem nodeInfo:(Tryz.prog.info? 187).map (fun i=>(i.zero,i.size,i.bytes))=some (some (.agg #[.pointer none,.int .i64 0,.int .i64 0]),3,24):=by kernel_rfl
theorem nodes_one(y:NB)(s:Nat):∀u∈nodeVals s y,u.oneCell'=true:=fun u hu=>by
 simp[nodeVals,iv]at hu
 rcases hu with rfl|rfl|rfl <;> rfl
end
section
open Go.RowKit Qs Qh
variable {b0 w w1 w2 w':World}{b1 i:Nat}{a:Nat→Addr}{l:List NB}{ks:List (List Nat)}{ends:Nat}{lv lv':Value}{bm be bs bt:Nat}
theorem wayBack_fuel{L:List Nd}(h:SrcOk L):∀(q f g:Nat),q<f→q<g→wayBack L f q=wayBack L g q:=by
 intro q
 induction q using Nat.strongRecOn with
 |_ q ih=>
  intro f g hf hg;obtain ⟨f,rfl⟩:∃f',f=f'+1:=⟨f - 1,by omega⟩;obtain ⟨g,rfl⟩:∃g',g=g'+1:=⟨g - 1,by omega⟩;unfold wayBack;rw[show ((q:Nat):Int).toNat=q from rfl]
  cases hx:L[q]? with
  |none=>rfl
  |some x=>
   simp only;have hs:=h q x hx
   by_cases h0:0≤x.src
   ·rw[if_pos h0,if_pos h0];obtain ⟨s,hs'⟩:∃s:Nat,x.src=s:=⟨x.src.toNat,by omega⟩;rw[hs',ih s (by omega) f g (by omega) (by omega)]
   ·rw[if_neg h0,if_neg h0]
theorem wayBack_stop{L:List Nd}{q:Nat}{x:Nd}(hx:L[q]?=some x)(h0:¬0≤x.src):wayBack L (q+1) q=[]:=by
 unfold wayBack;rw[show ((q:Nat):Int).toNat=q from rfl,hx];simp only;rw[if_neg h0]
theorem wayBack_step{L:List Nd}(h:SrcOk L){q s:Nat}{x:Nd}(hx:L[q]?=some x)(hs:x.src=s):wayBack L (q+1) q=x.by_ :: wayBack L (s+1) s:=by
 have hlt:=h q x hx
 conv=>lhs;unfold wayBack
 rw[show ((q:Nat):Int).toNat=q from rfl,hx];simp only;rw[if_pos (by omega),hs,wayBack_fuel h s q (s+1) (by omega) (by omega)]
theorem wayBack_len{L:List Nd}(h:SrcOk L):∀(q:Nat),(wayBack L (q+1) q).length≤q:=by
 intro q
 induction q using Nat.strongRecOn with
 |_ q ih=>
  cases hx:L[q]? with
  |none=>unfold wayBack;rw[show ((q:Nat):Int).toNat=q from rfl,hx];simp
  |some x=>
   by_cases h0:0≤x.src
   ·obtain ⟨s,hs⟩:∃s:Nat,x.src=s:=⟨x.src.toNat,by omega⟩;have hlt:=h q x hx;rw[wayBack_step h hx hs,List.length_cons];have:=ih s (by omega);omega
   ·rw[wayBack_stop hx h0];simp
theorem wayInfo:(Tryz.prog.info? 3).map (fun i=>(i.zero,i.size,i.bytes))=some (some (.int .i64 0),1,8):=by kernel_rfl
theorem way_any{g cap:Nat}(hgl:g<w.heap.size)(hgc:∀(j:Nat) x,l[j]?=some x→w.cell? ⟨g,j*3+1,none⟩=some (.int .i64 x.d.src)∧w.cell? ⟨g,j*3+2,none⟩=some (.int .i64 x.d.by_))(hi:i<l.length)(hl:l.length≤100000)(hs:SrcOk (l.map (·.d))) :
  Calls Tryz.prog 111 #[.slice (some ⟨g,0,none⟩) l.length cap,.int .i64 i] w fun e w'=>∃v',e=.returned v'∧w'.ownsRow 0 3 1 v' (wayTo (l.map (·.d)) i).length ((wayTo (l.map (·.d)) i).map (Value.int .i64))∧Mod noF w w'∧∀g,v'.ownBlock=some g→w.heap.size≤g:=by
 obtain ⟨i0,hti,hz0,hz1,hz2⟩:=info_parts wayInfo;have hfull:wayTo (l.map (·.d)) i=(wayBack (l.map (·.d)) (i+1) i).reverse:=rfl;have hlen:=wayBack_len hs i;have HG:=Lib.hid hgc;have Hs:=Lib.hid hs;rw[hfull];have Hlen:=Lib.hid hlen;clear hgc hs hfull hlen
 obtain ⟨W,hW⟩:∃W,W=wayBack (l.map (·.d)) (i+1) i:=⟨_,rfl⟩;rw[←hW]at Hlen ⊢;have HW:=Lib.hid hW;clear hW
 go_enter Tryz.func111,Tryz.ntmps111
 go_wp2_with fail
 go_loopw [1,5] (fun av ov wr=>∃(q:Nat) (acc:List Int),av=.int .i64 q∧q≤i∧acc++wayBack (l.map (·.d)) (q+1) q=W∧wr.ownsRow 0 3 1 ov acc.length (acc.map (Value.int .i64))∧Mod noF w wr∧∀g,ov.ownBlock=some g→w.heap.size≤g) (fun av _ _=>(intOf av).toNat)
 case atStart=>exact ⟨i,[],rfl,Nat.le_refl _,HW.out.symm,World.ownsRow_nil _ 0 _ 1,Mod.refl _ _,fun g h=>by simp[Value.ownBlock]at h⟩
 case round=>
  obtain ⟨q,acc,rfl,hqi,hacc,hown,hm,hlo⟩:=hrel;obtain ⟨wo,rfl⟩:∃wo:World,wo=wr:=⟨_,rfl⟩;obtain ⟨oa,oc,rfl,-,-⟩:=(own_off hown).slice;obtain ⟨x,hx⟩:∃x,l[q]?=some x:=⟨_,List.getElem?_eq_getElem (by omega)⟩
  have hxd:(l.map (·.d))[q]?=some x.d:=by rw[List.getElem?_map,hx];rfl
  have c1:=hm.cell (HG.out q x hx).1 (fun e=>e);have c2:=hm.cell (HG.out q x hx).2 (fun e=>e);have gl:=Nat.lt_of_lt_of_le hgl hm.size
  have hqn:(q:Int)<(l.length:Int):=by omega
  have hal:acc.length≤100000:=by
   have:=Hlen.out;rw[←hacc,List.length_append]at this;omega
  have Hown:=Lib.hid hown;have Hm:=Lib.hid hm;have Hlo:=Lib.hid hlo;have Hacc:=Lib.hid hacc;have hsq:=Hs.out q x.d hxd;have Hxd:=Lib.hid hxd;have Hx:=Lib.hid hx;clear hown hm hlo hacc hx hxd
  by_cases h0:0≤x.d.src
  ·have hd:decide ((0:Int)≤x.d.src)=true:=by simpa using h0
   obtain ⟨s,hss⟩:∃s:Nat,x.d.src=s:=⟨x.d.src.toNat,by omega⟩;rw[hss]at c1 hd hsq;have Hst:=Lib.hid (wayBack_step Hs.out Hxd.out hss)
   go_wp2_with (at_builtin;refine wpList_append_mine _ rfl (.tmp 17) (.tmp 23) 26 rfl 3 i0 (.int .i64 0) 1 8 Tryz.underlying26 hti hz0 hz1 hz2 rfl (by decide) (.slice oa acc.length oc) acc.length (acc.map (Value.int .i64)) rfl (by exact World.ownsRow.alloc Hown.out _) ⟨wo.heap.size,0,none⟩ 1 1 [.int .i64 x.d.by_] rfl rfl (by exact new_cells_at _ _ _ rfl) (by intro u hu;simp at hu;subst hu;rfl) (by unfold maxLen;omega) (by omega) ?_;intro v4 w9 hown9 hgr9 hfr9 _;have hm9:Mod (fun x=>(Value.slice oa acc.length oc).ownBlock=some x) wo w9:=appended hgr9 ((Mod.refl noF wo).alloc _);have hM9:Mod noF w w9:=Hm.out.trans hm9 (fun y hy e=>by have:=Hlo.out y e;omega);have hlo9:∀g,v4.ownBlock=some g→w.heap.size≤g:=(fun g hg=>(hfr9 g hg).elim (Hlo.out g) (fun e=>by have:=Hm.out.size;simp at e;omega));have d1:=hM9.cell (HG.out q x Hx.out).1 (fun e=>e);rw[hss]at d1;have gl9:=Nat.lt_of_lt_of_le hgl hM9.size;obtain ⟨ya,yb,yc,rfl⟩:=slice_of_own hown9;have Hown9:=Lib.hid hown9;have HM9:=Lib.hid hM9;have Hlo9:=Lib.hid hlo9;clear hown9 hgr9 hfr9 hm9 hM9 hlo9)
   go_roundw
   case rel=>exact ⟨s,acc++[x.d.by_],by first|rfl|go_num,by omega,by rw[List.append_assoc];show acc++(x.d.by_ :: wayBack (l.map (·.d)) (s+1) s)=W;rw[←Hst.out];exact Hacc.out,by rw[List.length_append,List.map_append];exact Hown9.out,HM9.out,Hlo9.out⟩
   case measure=>simp[intOf];omega
  ·have hd:decide ((0:Int)≤x.d.src)=false:=by simpa using h0
   have hW2:acc=W:=by
    have:=Hacc.out;rw[wayBack_stop Hxd.out h0,List.append_nil]at this;exact this
   subst hW2;have hrev:=rev_any Hown.out (by omega);have Hrev:=Lib.hid hrev;clear hrev
   go_wp2_with fail
   refine Hrev.out.mono ?_;rintro e w9 ⟨rfl,hown9,hm9⟩;have Hown9:=Lib.hid hown9;have HM9:=Lib.hid (Hm.out.trans hm9 (fun y hy e=>by have:=Hlo.out y e;omega));clear hown9 hm9;go_wp2;go_ret;exact ⟨_,rfl,by rw[List.length_reverse];exact Hown9.out,HM9.out,Hlo.out⟩
end
section
open Go.RowKit Qs Qh
variable {n:Nat}{init regs:List (List Int)}{codes:List (List Instr)}
theorem startM_okM(h1:1≤n)(hn:n≤64)(hc6:codes.length≤6)(hi:RowsFine 4 init):OkM 1 (startM n init regs codes):=by
 have:=preM_ok (i:=init.length) h1 hn hc6 hi;exact ⟨this.cells1,this.cells,this.words,this.times,this.waits,this.wlen,this.wval,this.N0⟩
theorem startM_okT(hc1:1≤codes.length)(hr:RowsFine 8 regs)(hf:∀c∈codes,CodeFine c):OkT 1 (startM n init regs codes):=by
 refine ⟨by simp[startM],by rw[startM_len];exact hc1,?_,?_,by simp[startM],by simp[startM]⟩
 ·intro t x hx;obtain ⟨c,hc,rfl⟩:=startM_T' hx;exact ⟨pad_len (hr.getD t).1,pad_word (hr.getD t).2⟩
 ·intro t x hx;obtain ⟨c,hc,rfl⟩:=startM_T' hx;exact ⟨Nat.zero_le _,(hf c (List.mem_of_getElem? hc)).ok⟩
theorem startM_labs{raw:List (List RI)}(hcs:codes.map (fun c=>c.map rawI)=raw)(ho:∀l∈raw,∀x∈l,x.to.size≤maxLen):LabsOk (startM n init regs codes):=by
 intro t x hx y hy;obtain ⟨c,hc,rfl⟩:=startM_T' hx
 have h1:c.map rawI∈raw:=by rw[←hcs];exact List.mem_map.2 ⟨c,List.mem_of_getElem? hc,rfl⟩
 have:=ho _ h1 (rawI y) (List.mem_map.2 ⟨y,hy,rfl⟩)
 simpa[rawI,ByteArray.size]using this
theorem rawI_inj{x y:Instr}(hx:x.op<21)(hy:y.op<21)(h:rawI x=rawI y):x=y:=by
 obtain ⟨o1,a1,b1,c1,t1⟩:=x;obtain ⟨o2,a2,b2,c2,t2⟩:=y;unfold rawI at h;simp only[RI.mk.injEq,ByteArray.mk.injEq]at h;obtain ⟨e1,rfl,rfl,rfl,e5⟩:=h;have:=opStr_inj o1 hx o2 hy e1;subst this
 have e:t1=t2:=by have:=congrArg Array.toList e5;simpa using this
 rw[e]
theorem insFine_op{x:Instr}{c:List Instr}(h:CodeFine c)(hx:x∈c):x.op<21:=by
 have:=insOk_le (h.ok.ins x hx);omega
end
section
open Go.RowKit Qs Qh
variable {b0 w w1 w2 w':World}{b1 i:Nat}{a:Nat→Addr}{X:XB}{vs:List Value}{mv:Value}{m:M}{N:Int}{l:List NB}{ks:List (List Nat)}{ends:Nat}{lv lv':Value}{bm be bs bt:Nat}
abbrev toldZ:Value:=.agg #[.int .i64 0,.int .i64 0,.bool false,.slice none 0 0]
abbrev allF:Value:=.func (.func 69) #[] #[]
theorem told_set{T:TypeId}{b:Nat}{x0 x1 x2 x3 y0 y1 y2 y3:Value}{F:Nat→Prop}(h:w1.heap[b]?=some (.cells #[x0,x1,x2,x3] T (0,0)))(hM:Mod F w w1)(hb:w.heap.size≤b) :
  ∃w2,w2=(((w1.setCell ⟨b,0,none⟩ y0).setCell ⟨b,1,none⟩ y1).setCell ⟨b,2,none⟩ y2).setCell ⟨b,3,none⟩ y3∧w2.heap[b]?=some (.cells #[y0,y1,y2,y3] T (0,0))∧Mod F w w2∧Mod (fun x=>x=b) w1 w2:=by
 refine ⟨_,rfl,?_,(((hM.setCell (fun h=>absurd h (by show ¬b<_;omega)) _).setCell (fun h=>absurd h (by show ¬b<_;omega)) _).setCell (fun h=>absurd h (by show ¬b<_;omega)) _).setCell (fun h=>absurd h (by show ¬b<_;omega)) _,
  ((((Mod.refl (fun x=>x=b) w1).setCell (fun _=>rfl) _).setCell (fun _=>rfl) _).setCell (fun _=>rfl) _).setCell (fun _=>rfl) _⟩
 rw[Qh.heap_setCell_same (Qh.heap_setCell_same (Qh.heap_setCell_same (Qh.heap_setCell_same h 0 y0) 1 y1) 2 y2) 3 y3];simp
structure KeepT(w0:World)(b:Nat)(W:World):Prop where
 mod:Mod (fun x=>x=b) w0 W
 blk:∃c0 c1 c2 c3,W.heap[b]?=some (.cells #[c0,c1,c2,c3] 62 (0,0))
 lt:b<w0.heap.size
def oldC(b:Nat)(W:World)(i:Nat):Value:=(W.cell? ⟨b,i,none⟩).getD undef
theorem KeepT.more{w0 W W':World}{b:Nat}{F:Nat→Prop}(h:KeepT w0 b W)(hM:Mod F W W')(hF:∀x,x<w0.heap.size→¬F x):KeepT w0 b W':=by
 obtain ⟨c0,c1,c2,c3,e⟩:=h.blk;exact ⟨h.mod.trans hM (fun x hx hf=>absurd hf (hF x hx)),⟨c0,c1,c2,c3,hM.heap e (hF b h.lt)⟩,h.lt⟩
theorem KeepT.alloc{w0 W:World}{b:Nat}(h:KeepT w0 b W)(o:Obj):KeepT w0 b (W.alloc o):=h.more ((Mod.refl noF W).alloc o) (fun _ _ e=>e)
theorem KeepT.drew{w0 W:World}{b:Nat}(h:KeepT w0 b W):KeepT w0 b W.drew:=h.more (Mod.refl noF W).drew (fun _ _ e=>e)
theorem KeepT.set4{w0 W:World}{b:Nat}(h:KeepT w0 b W)(y0 y1 y2 y3:Value):KeepT w0 b ((((W.setCell ⟨b,0,none⟩ y0).setCell ⟨b,1,none⟩ y1).setCell ⟨b,2,none⟩ y2).setCell ⟨b,3,none⟩ y3):=by
 obtain ⟨c0,c1,c2,c3,e⟩:=h.blk;refine ⟨h.mod.trans (((((Mod.refl (fun x=>x=b) W).setCell (fun _=>rfl) _).setCell (fun _=>rfl) _).setCell (fun _=>rfl) _).setCell (fun _=>rfl) _) (fun _ _ e=>e),⟨y0,y1,y2,y3,?_⟩,h.lt⟩
 rw[Qh.heap_setCell_same (Qh.heap_setCell_same (Qh.heap_setCell_same (Qh.heap_setCell_same e 0 y0) 1 y1) 2 y2) 3 y3];simp
theorem KeepT.facts{w0 W:World}{b:Nat}(h:KeepT w0 b W):W.cell? ⟨b,0,none⟩=some (oldC b W 0)∧W.cell? ⟨b,1,none⟩=some (oldC b W 1)∧W.cell? ⟨b,2,none⟩=some (oldC b W 2)∧W.cell? ⟨b,3,none⟩=some (oldC b W 3)∧
  W.frozen? ⟨b,0,none⟩=false∧W.frozen? ⟨b,1,none⟩=false∧W.frozen? ⟨b,2,none⟩=false∧W.frozen? ⟨b,3,none⟩=false∧b<W.heap.size:=by
 obtain ⟨c0,c1,c2,c3,e⟩:=h.blk;have k0:W.cell? ⟨b,0,none⟩=some c0:=(cell_of_heap e 0).trans rfl;have k1:W.cell? ⟨b,1,none⟩=some c1:=(cell_of_heap e 1).trans rfl;have k2:W.cell? ⟨b,2,none⟩=some c2:=(cell_of_heap e 2).trans rfl;have k3:W.cell? ⟨b,3,none⟩=some c3:=(cell_of_heap e 3).trans rfl
 unfold oldC;rw[k0,k1,k2,k3];exact ⟨rfl,rfl,rfl,rfl,free_of_heap e 0,free_of_heap e 1,free_of_heap e 2,free_of_heap e 3,lt_of_block e⟩
def OutIs(lo:Nat)(a:Nat→Addr)(o:Out)(e:Ending)(w':World):Prop:=
 match o with
 |.bound=>e=.returned (.tuple #[toldZ,errV a 1])
 |.told n ends=>e=.returned (.tuple #[.agg #[.int .i64 n,.int .i64 ends,.bool false,.slice none 0 0],.nilIface])
 |.fault n ends way=>∃va vc,e=.returned (.tuple #[.agg #[.int .i64 n,.int .i64 ends,.bool true,.slice va way.length vc],.nilIface])∧IntsAt w' (.slice va way.length vc) way∧(∀g,(Value.slice va way.length vc).ownBlock=some g→lo≤g)∧way.length≤vc
def EachRes(w:World)(a:Nat→Addr)(n:Int)(init regs:List (List Int))(codes:List (List RI))(most:Int)(e:Ending)(w':World):Prop:=
 (¬ShapeR n init regs codes∧e=.returned (.tuple #[toldZ,errV a 1]))∨
 (∃k:Nat,n=k∧ShapeR n init regs codes∧∃(i:Nat) (c:List RI) (g:Nat),codes[i]?=some c∧(∀(j:Nat) d,j<i→codes[j]?=some d→(chkR d).1=0)∧(chkR c).1≠0∧e=.returned (.tuple #[toldZ,.iface 89 (.pointer (some ⟨g,0,none⟩))])∧w.heap.size≤g∧g<w'.heap.size∧
  w'.heap[g]?=some (.cells #[.int .i64 i,errV a ((chkR c).1.toNat - 1)] 93 (0,0)))∨
 (∃(k:Nat) (cs:List (List Instr)),n=k∧ShapeR n init regs codes∧cs.map (fun c=>c.map rawI)=codes∧(∀c∈cs,CodeFine c)∧
  (((most<1∨60000<most)∧e=.returned (.tuple #[toldZ,errV a 1]))∨(1≤most∧most≤60000∧OutIs w.heap.size a (eachOut most.toNat (startM k init regs cs)) e w')))
theorem each_any(n:Int)(iw rw_ cw:Value)(init regs:List (List Int))(codes:List (List RI))(cv:Nat→Value)(most:Int)(w:World)(E:ErrsM w a)(fI:RowsAt0 w iw init)(fR:RowsAt0 w rw_ regs)(fC:RCodesAt w cw codes cv)(lk:∀l∈codes,l.length≤maxLen) :
  Calls Tryz.prog 68 #[.agg #[.int .i64 n,iw,rw_],cw,.int .i64 most,allF] w fun e w'=>EachRes w a n init regs codes most e w'∧Mod noF w w':=by
 obtain ⟨w0,hw0⟩:∃w0,w0=((w.alloc (.cells #[.int .i64 n,iw,rw_] 34)).alloc (.cells #[allF] 139)).alloc (.cells #[.int .i64 0,.int .i64 0,.bool false,.slice none 0 0] 62):=⟨_,rfl⟩
 have hm0:Mod noF w w0:=by rw[hw0];exact (((Mod.refl noF w).alloc _).alloc _).alloc _
 have hnew:Calls Tryz.prog 10 #[.agg #[.int .i64 n,iw,rw_],cw] w0 fun e w'=>
   (¬ShapeR n init regs codes∧e=.returned (.tuple #[.pointer none,errV a 1])∧Mod noF w0 w')∨(∃k:Nat,n=k∧ShapeR n init regs codes∧(NewBad w0 a codes e w'∨NewGood w0 k init regs codes e w')):=
  pnew_any n iw rw_ cw init regs codes cv w0 (E.keep hm0) (rows_keep0 fI hm0) (rows_keep0 fR hm0) (fC.keep hm0) lk
 have hro:∀l∈codes,∀x∈l,x.to.size≤maxLen:=fun l hl x hx=>by
  obtain ⟨i,hi⟩:=List.mem_iff_getElem?.1 hl;obtain ⟨_,_,_,hx'⟩:=fC;obtain ⟨_,_,_,_,_,hr,_⟩:=hx' i l hi;exact hr.ok x hx
 obtain ⟨ia,ic,ei,-⟩:=id fI;obtain ⟨ra,rc,er,-⟩:=id fR;obtain ⟨ca,cc,ec,-⟩:=id fC;subst ei er ec
 have hA:w0.heap[w.heap.size]?=some (.cells #[.int .i64 n,.slice ia init.length ic,.slice ra regs.length rc] 34 (0,0)):=by
  rw[hw0];exact (((Mod.refl noF _).alloc _).alloc _).heap (heap_alloc_new w _) (fun e=>e)
 have s0:w0.cell? ⟨w.heap.size,0,none⟩=some (.int .i64 n):=(cell_of_heap hA 0).trans rfl;have s1:w0.cell? ⟨w.heap.size,1,none⟩=some (.slice ia init.length ic):=(cell_of_heap hA 1).trans rfl;have s2:w0.cell? ⟨w.heap.size,2,none⟩=some (.slice ra regs.length rc):=(cell_of_heap hA 2).trans rfl
 have sb:=lt_of_block hA
 have hB:w0.heap[w.heap.size+1]?=some (.cells #[allF] 139 (0,0)):=by
  have:=((Mod.refl noF _).alloc (.cells #[.int .i64 0,.int .i64 0,.bool false,.slice none 0 0] 62)).heap (heap_alloc_new (w.alloc (.cells #[.int .i64 n,.slice ia init.length ic,.slice ra regs.length rc] 34)) (.cells #[allF] 139)) (fun e=>e)
  rw[size1]at this;rw[hw0];exact this
 have hC:w0.heap[w.heap.size+1+1]?=some (.cells #[.int .i64 0,.int .i64 0,.bool false,.slice none 0 0] 62 (0,0)):=by
  have:=heap_alloc_new ((w.alloc (.cells #[.int .i64 n,.slice ia init.length ic,.slice ra regs.length rc] 34)).alloc (.cells #[allF] 139)) (.cells #[.int .i64 0,.int .i64 0,.bool false,.slice none 0 0] 62);rw[size2]at this
  rw[hw0];exact this
 have HE:=Lib.hid E;have Hnew:=Lib.hid hnew;have Hm0:=Lib.hid hm0;have Hro:=Lib.hid hro;have HB:=Lib.hid hB;have HC:=Lib.hid hC;clear hA E hnew hm0 hro fI fR fC hB hC lk
 go_enter Tryz.func68,Tryz.ntmps68
 go_wp2_with fail
 rw[←hw0];clear hw0;refine Hnew.out.mono ?_;rintro e w4 (⟨hns,rfl,hm4⟩|⟨k,rfl,hsh,hb|hg⟩)
 ·have Hm4:=Lib.hid (Hm0.out.trans0 hm4);have HC4:=hm4.heap HC.out (fun e=>e);have t0:w4.cell? ⟨w.heap.size+1+1,0,none⟩=some (.int .i64 0):=(cell_of_heap HC4 0).trans rfl;have tl:=lt_of_block HC4;have t1:w4.cell? ⟨w.heap.size+1+1,1,none⟩=some (.int .i64 0):=(cell_of_heap HC4 1).trans rfl
  have t2:w4.cell? ⟨w.heap.size+1+1,2,none⟩=some (.bool false):=(cell_of_heap HC4 2).trans rfl;have t3:w4.cell? ⟨w.heap.size+1+1,3,none⟩=some (.slice none 0 0):=(cell_of_heap HC4 3).trans rfl;have f0:=free_of_heap HC4 0;have f1:=free_of_heap HC4 1;have f2:=free_of_heap HC4 2
  have f3:=free_of_heap HC4 3;clear hm4;obtain ⟨w5,hw5,hC5,hm5,-⟩:=told_set (y0:=.int .i64 0) (y1:=.int .i64 0) (y2:=.bool false) (y3:=.slice none 0 0) HC4 Hm4.out (by omega);have r0:w5.cell? ⟨w.heap.size+1+1,0,none⟩=some (.int .i64 0):=(cell_of_heap hC5 0).trans rfl
  have r1:w5.cell? ⟨w.heap.size+1+1,1,none⟩=some (.int .i64 0):=(cell_of_heap hC5 1).trans rfl;have r2:w5.cell? ⟨w.heap.size+1+1,2,none⟩=some (.bool false):=(cell_of_heap hC5 2).trans rfl;have r3:w5.cell? ⟨w.heap.size+1+1,3,none⟩=some (.slice none 0 0):=(cell_of_heap hC5 3).trans rfl
  have rl:=lt_of_block hC5;have Hm5:=Lib.hid hm5;have Hw5:=Lib.hid hw5;have Hns:=Lib.hid hns;clear hC5 hm5 hw5 hns;unfold errV;go_wp2;rw[←Hw5.out]
  refine bodyPost_ret (v:=.tuple #[toldZ,errV a 1]) (by simp[results,Tryz.results68,go_sem,r0,r1,r2,r3,errV]) rfl ⟨.inl ⟨Hns.out,rfl⟩,Hm5.out⟩
 ·obtain ⟨i,c,hci,hlow,hne,g,rfl,hg,hgc,hm4⟩:=hb;have Hm4:=Lib.hid (Hm0.out.trans0 hm4);have HC4:=hm4.heap HC.out (fun e=>e);have t0:w4.cell? ⟨w.heap.size+1+1,0,none⟩=some (.int .i64 0):=(cell_of_heap HC4 0).trans rfl;have tl:=lt_of_block HC4
  have t1:w4.cell? ⟨w.heap.size+1+1,1,none⟩=some (.int .i64 0):=(cell_of_heap HC4 1).trans rfl;have t2:w4.cell? ⟨w.heap.size+1+1,2,none⟩=some (.bool false):=(cell_of_heap HC4 2).trans rfl;have t3:w4.cell? ⟨w.heap.size+1+1,3,none⟩=some (.slice none 0 0):=(cell_of_heap HC4 3).trans rfl
  have f0:=free_of_heap HC4 0;have f1:=free_of_heap HC4 1;have f2:=free_of_heap HC4 2;have f3:=free_of_heap HC4 3;obtain ⟨w5,hw5,hC5,hm5,hMt⟩:=told_set (y0:=.int .i64 0) (y1:=.int .i64 0) (y2:=.bool false) (y3:=.slice none 0 0) HC4 Hm4.out (by omega)
  have r0:w5.cell? ⟨w.heap.size+1+1,0,none⟩=some (.int .i64 0):=(cell_of_heap hC5 0).trans rfl;have r1:w5.cell? ⟨w.heap.size+1+1,1,none⟩=some (.int .i64 0):=(cell_of_heap hC5 1).trans rfl;have r2:w5.cell? ⟨w.heap.size+1+1,2,none⟩=some (.bool false):=(cell_of_heap hC5 2).trans rfl
  have r3:w5.cell? ⟨w.heap.size+1+1,3,none⟩=some (.slice none 0 0):=(cell_of_heap hC5 3).trans rfl;have rl:=lt_of_block hC5;have Hm5:=Lib.hid hm5;have Hw5:=Lib.hid hw5
  have hb4:w.heap.size+1+1<g:=by
   have:=lt_of_block HC.out;omega
  have hg5:w5.heap[g]?=some (.cells #[.int .i64 i,errV a ((chkR c).1.toNat - 1)] 93 (0,0)):=hMt.heap hgc (fun e=>by omega);have Hg5:=Lib.hid hg5;have Hr:=Lib.hid (And.intro hci (And.intro hlow hne));have Hsh:=Lib.hid hsh
  have hgw:w.heap.size≤g:=by omega
  clear hC5 hm5 hw5 hm4 hci hlow hne hsh hgc hg5 hMt;go_wp2;rw[←Hw5.out]
  refine bodyPost_ret (v:=.tuple #[toldZ,.iface 89 (.pointer (some ⟨g,0,none⟩))]) (by simp[results,Tryz.results68,go_sem,r0,r1,r2,r3]) rfl ⟨.inr (.inl ⟨k,rfl,Hsh.out,i,c,g,Hr.out.1,Hr.out.2.1,Hr.out.2.2,rfl,hgw,lt_of_block Hg5.out,Hg5.out⟩),Hm5.out⟩
 ·obtain ⟨cs,X,vs,mv,hcs,hfine,rfl,hP,hm4,hlow,hown⟩:=hg
  have hcl:cs.length=codes.length:=by rw[←hcs];simp
  obtain ⟨z1,z2,z3,z4,z5,z6,z7,z8⟩:=id hsh;have Hm4:=Lib.hid (Hm0.out.trans0 hm4);have P:PX w4 X vs mv (startM k init regs cs) 1:=⟨hP,startM_okM (by omega) (by omega) (by omega) (rows_fine z7),startM_okT (by omega) (rows_fine z8) hfine⟩;have hs04:=Hm0.out.size
  have Nd0:NodeAt w w4 w4.heap.size a X vs mv (startM k init regs cs) 1:=⟨P,⟨HE.out,Hm4.out,fun x hx=>Nat.le_trans hs04 (hlow x hx)⟩,startM_labs hcs Hro.out,fun t h ht=>⟨fun g hg=>((hP.code t h ht).2 g hg).2,(hP.maps t h ht).1.lt⟩⟩
  have hT0:1≤(startM k init regs cs).T.length∧(startM k init regs cs).T.length≤6:=⟨P.ot.t1,P.t6⟩;have hE4:=HE.out.keep Hm4.out;have hB4:=hm4.heap HB.out (fun e=>e);have hC4:=hm4.heap HC.out (fun e=>e)
  have Hfin:=Lib.hid (show ∀e w',((((most<1∨60000<most)∧e=.returned (.tuple #[toldZ,errV a 1]))∨(1≤most∧most≤60000∧OutIs w.heap.size a (eachOut most.toNat (startM k init regs cs)) e w')))→EachRes w a k init regs codes most e w' from fun e w' h=>.inr (.inr ⟨k,cs,rfl,hsh,hcs,hfine,h⟩))
  have HN0:=Lib.hid Nd0;have hs4:=Hm4.out.size;have HB4:=Lib.hid hB4;have HE4:=Lib.hid hE4;clear hcs hfine hP hlow hown hsh z1 z2 z3 z4 z5 z6 z7 z8 P Nd0 hB4 hE4 hm4 Hro HE hcl;generalize hm:startM k init regs cs=m at *;clear hm
  by_cases hmb:most<1∨60000<most
  ·have e1:=HE4.out.v1;have HC4:=hC4;have t0:w4.cell? ⟨w.heap.size+1+1,0,none⟩=some (.int .i64 0):=(cell_of_heap HC4 0).trans rfl;have tl:=lt_of_block HC4;have t1:w4.cell? ⟨w.heap.size+1+1,1,none⟩=some (.int .i64 0):=(cell_of_heap HC4 1).trans rfl
   have t2:w4.cell? ⟨w.heap.size+1+1,2,none⟩=some (.bool false):=(cell_of_heap HC4 2).trans rfl;have t3:w4.cell? ⟨w.heap.size+1+1,3,none⟩=some (.slice none 0 0):=(cell_of_heap HC4 3).trans rfl;have f0:=free_of_heap HC4 0;have f1:=free_of_heap HC4 1;have f2:=free_of_heap HC4 2
   have f3:=free_of_heap HC4 3;obtain ⟨w5,hw5,hC5,hm5,-⟩:=told_set (y0:=.int .i64 0) (y1:=.int .i64 0) (y2:=.bool false) (y3:=.slice none 0 0) HC4 Hm4.out (by omega);have r0:w5.cell? ⟨w.heap.size+1+1,0,none⟩=some (.int .i64 0):=(cell_of_heap hC5 0).trans rfl
   have r1:w5.cell? ⟨w.heap.size+1+1,1,none⟩=some (.int .i64 0):=(cell_of_heap hC5 1).trans rfl;have r2:w5.cell? ⟨w.heap.size+1+1,2,none⟩=some (.bool false):=(cell_of_heap hC5 2).trans rfl;have r3:w5.cell? ⟨w.heap.size+1+1,3,none⟩=some (.slice none 0 0):=(cell_of_heap hC5 3).trans rfl
   have rl:=lt_of_block hC5;have Hm5:=Lib.hid hm5;have Hw5:=Lib.hid hw5
   have hd1:decide (most<1)=true∨(decide (most<1)=false∧decide (60000<most)=true):=by
    rcases hmb with h|h
    ·exact .inl (by simpa using h)
    ·by_cases h1:most<1
     ·exact .inl (by simpa using h1)
     ·exact .inr ⟨by simpa using h1,by simpa using h⟩
   clear hC5 hm5 hw5
   rcases hd1 with hd1|⟨hd1,hd2⟩
   all_goals
    go_wp2_with fail
    go_region
    all_goals
     rw[←Hw5.out];go_wp2;refine bodyPost_ret (v:=.tuple #[toldZ,errV a 1]) (by simp[results,Tryz.results68,go_sem,r0,r1,r2,r3,errV]) rfl ⟨Hfin.out _ _ (.inl ⟨hmb,rfl⟩),Hm5.out.drew⟩
  ·obtain ⟨mo,rfl⟩:∃mo:Nat,most=mo:=⟨most.toNat,by omega⟩
   have hmo:1≤mo∧mo≤60000:=by omega
   have hd1:decide ((mo:Int)<1)=false:=by simp;omega
   have hd2:decide ((60000:Int)<(mo:Int))=false:=by simp;omega
   have hto:(mo:Int).toNat=mo:=by omega
   have Hfin2:=Lib.hid (show ∀e w',OutIs w.heap.size a (eachOut mo m) e w'→EachRes w a k init regs codes mo e w' from fun e w' h=>Hfin.out e w' (.inr ⟨by omega,by omega,by rw[hto];exact h⟩));clear hto Hfin;have hgo:Bf.go mo m.T.length (mo+1) 0 (Bf.start m)=eachOut mo m:=rfl
   obtain ⟨out,hout⟩:∃o,o=eachOut mo m:=⟨_,rfl⟩;rw[←hout]at hgo Hfin2;clear hout;have hmm:=@run_makeMap Tryz.prog;have HC4:=Lib.hid hC4;have Hgo:=Lib.hid hgo;clear hC4 hgo hmb s0 s1 s2 sb Hnew Hm0 HB HC
   go_wp2_with fail
   refine (key_any (HN0.out.px.keep0 (((Mod.refl noF w4).alloc _).alloc _)) (by omega)).mono ?_;rintro e wK ⟨rfl,hmK⟩;have hkb:=key_bytes HN0.out.px (by omega)
   obtain ⟨wP,hput,hsP,hmP⟩:=((SeenAt.made (w4.alloc (.cells #[.pointer (some ⟨X.bX,0,none⟩),.int .i64 (-1),.int .i64 0] 187))).keep hmK (fun e=>e)).put hkb (by simp);rw[size1,List.nil_append]at hsP;rw[size1]at hput hmP
   obtain ⟨EI,hmI⟩:=EachAt.init HN0.out hs4 HB4.out HC4.out hmK hsP hmP;have hnote:=note_any EI (HN0.out.px.keep0 hmI) (by omega);have Hnote:=Lib.hid hnote;have HmI:=Lib.hid hmI;clear EI hnote hmI hsP hmP hmK hkb
   go_wp2_with fail
   refine Hnote.out.mono ?_;rintro e w7 ⟨rfl,E7,hm7⟩;have hsP:=HmI.out.size;rw[size1]at hsP
   have W0:WInv w w7 w4.heap.size a 0 [⟨X,vs,mv,⟨m,-1,0⟩,true⟩] (if m.rest then 1 else 0) (.slice (some ⟨w4.heap.size,0,none⟩) 1 1) (w4.heap.size+1) wP.heap.size (w.heap.size+1) (w.heap.size+1+1) mo m.T.length:=
    ⟨by rwa [Nat.zero_add]at E7,fun j x _ hx=>by
     match j,hx with
     |0,hx=>cases hx;rfl
     |j+1,hx=>simp at hx,by simp;omega,by simp;split <;> omega,by simp,(Hm4.out.trans0 HmI.out).trans hm7 (fun x hx e=>by have:=E7.elo;omega),fun j x hx=>by
     match j,hx with
     |0,hx=>cases hx;show (-1:Int)<((0:Nat):Int);omega
     |j+1,hx=>simp at hx⟩
   have RN0:NodeAt w w7 w4.heap.size a X vs mv m 1:=(HN0.out.keep0 HmI.out hs4).keep hm7 (fun x e=>by
    subst e;refine ⟨E7.elo,fun c T e2=>?_⟩;rw[heap_alloc_new wP _]at e2;cases e2
    decide) hs4
   have HW0:=Lib.hid W0;have HRN0:=Lib.hid RN0;clear W0 RN0 E7 hm7 Hnote hput
   go_wp2_with fail
   go_loopw [9,12,16] (fun _ lv iv wr=>∃(i f:Nat) (l:List NB) (ends:Nat),iv=.int .i64 i∧i≤l.length∧1≤l.length∧WInv w wr w4.heap.size a i l ends lv (w4.heap.size+1) wP.heap.size (w.heap.size+1) (w.heap.size+1+1) mo m.T.length∧NodeAt w wr w4.heap.size a X vs mv m 1∧Bf.go mo m.T.length f i ⟨l.map (·.d),ends⟩=out∧f+i=mo+1) (fun _ _ iv _=>mo+1 - (intOf iv).toNat)
   case atStart=>exact ⟨0,mo+1,_,_,rfl,Nat.zero_le _,by simp,HW0.out,HRN0.out,Hgo.out,by omega⟩
   case round=>
    obtain ⟨i,f,l,ends,rfl,hil,hl1,WI,RN,hgo,hfi⟩:=hrel;obtain ⟨wo,rfl⟩:∃wo:World,wo=wr:=⟨_,rfl⟩;have hle:=WI.le;obtain ⟨g,cap,rfl,-⟩:=WI.E.lvAt hl1
    by_cases hlt:i<l.length
    ·have hd3:decide ((i:Int)<(l.length:Int))=true:=by simp;omega
     have hii:(i:Int)<(l.length:Int):=by omega
     obtain ⟨f',rfl⟩:∃f',f=f'+1:=⟨f - 1,by omega⟩;have hgo2:=(Bf.go_succ (most:=mo) (t:=m.T.length) (f:=f') (s:=⟨l.map (·.d),ends⟩) (by simpa using hlt)).symm.trans hgo;have Hthr:=Lib.hid (pthreads_any RN.px);have HW:=Lib.hid WI;have HR:=Lib.hid RN;have Hgo2:=Lib.hid hgo2;clear WI RN hgo hgo2
     go_wp2_with fail
     refine Hthr.out.mono ?_;rintro e w8 ⟨rfl,rfl⟩
     go_wp2_with fail
     go_loopw [9,12,58] (fun _ lv kv wr=>∃(k:Nat) (l:List NB) (ends:Nat),kv=.int .i64 k∧k≤2*m.T.length∧i<l.length∧WInv w wr w4.heap.size a i l ends lv (w4.heap.size+1) wP.heap.size (w.heap.size+1) (w.heap.size+1+1) mo m.T.length∧NodeAt w wr w4.heap.size a X vs mv m 1∧Bf.rest mo m.T.length f' i k ⟨l.map (·.d),ends⟩=out) (fun _ _ kv _=>2*m.T.length - (intOf kv).toNat)
     case atStart=>exact ⟨0,l,ends,rfl,by omega,hlt,HW.out,HR.out,Hgo2.out⟩
     case round=>
      obtain ⟨q,l2,ends2,rfl,hq,hi2,WI2,RN2,hrest⟩:=hrel;obtain ⟨wi,rfl⟩:∃wi:World,wi=wr:=⟨_,rfl⟩;have hle2:=WI2.le;obtain ⟨g2,cap2,rfl,hgl,hgf,hgc⟩:=WI2.E.lvAt (by omega)
      by_cases hqt:q<2*m.T.length
      ·have hd4:decide ((q:Int)<2*(m.T.length:Int))=true:=by simp;omega
       obtain ⟨x,hx⟩:∃x,l2[i]?=some x:=⟨_,List.getElem?_eq_getElem hi2⟩;have hxl:=WI2.live i x (Nat.le_refl _) hx;have Nx:=WI2.E.node i x hx hxl
       have c0:wi.cell? ⟨g2,i*3,none⟩=some (.pointer (some ⟨x.X.bX,0,none⟩)):=by have:=(hgc i x hx).1;rwa [hxl,if_pos rfl]at this
       have hii2:(i:Int)<(l2.length:Int):=by omega
       have hbw:w4.heap.size≤wi.heap.size:=by have:=WI2.E.elo;have:=lt_of_block WI2.E.cnt;omega
       have htx:=WI2.thr x (List.mem_of_getElem? hx)
       have hxd:(⟨l2.map (·.d),ends2⟩:Bf).l[i]?=some x.d:=by show (l2.map (·.d))[i]?=_;rw[List.getElem?_map,hx];rfl
       have hturn:=Bf.turn_at (most:=mo) (k:=q) hxd;have hcopy:=pcopy_any Nx.px;have Hcopy:=Lib.hid hcopy;have HNx:=Lib.hid Nx;have HW2:=Lib.hid WI2;have HR2:=Lib.hid RN2;have Hrest:=Lib.hid hrest;have Hturn:=Lib.hid hturn;have Htx:=Lib.hid htx;clear hgc hx hxl Nx htx hxd hturn hcopy WI2 RN2 hrest
       go_wp2_with fail
       refine Hcopy.out.mono ?_;rintro e w9 ⟨X1,vs1,mv1,rfl,P1,ecv,emb,hm9,hf9⟩;have hturn2:=pturn_any P1 (by omega) (⟨HNx.out.low.errs,HNx.out.low.mod.trans0 hm9,fun y hy=>by have:=hf9 y hy;omega⟩:XLow w w9 a X1 vs1 mv1) HNx.out.labs (q:Int) (by omega) (by omega);have Hturn2:=Lib.hid hturn2
       have HP1:=Lib.hid P1;have Hm9:=Lib.hid hm9;have Hf9:=Lib.hid hf9;have Hcv:=Lib.hid (And.intro ecv emb);clear hturn2 P1 hm9 hf9 ecv emb
       go_wp2_with fail
       refine Hturn2.out.mono ?_;rintro e w10 ⟨rfl,vs2,mv2,U⟩;obtain ⟨NC,hm10⟩:=HNx.out.child (by omega) HP1.out Hcv.out.1 Hcv.out.2 Hm9.out Hf9.out hbw hs4 (q:Int) U
       have hTm:(x.d.m.turn (q:Int)).1.T.length=m.T.length:=by rw[cs_len (turn_cs x.d.m (q:Int)),Htx.out]
       have ht:=Hturn.out;generalize x.d.m.turn (q:Int)=mr at *;obtain ⟨m1,z1⟩:=mr;simp only at NC hTm ht;have HNC:=Lib.hid NC;have HW10:=Lib.hid (HW2.out.keep0 hm10);have HR10:=Lib.hid (HR2.out.keep0 hm10 hs4);have HTm:=Lib.hid hTm;clear NC hm10 hTm Hturn U HW2 HR2 HNx Htx
       by_cases hz:z1=0
       ·subst hz;rw[if_neg (by simp)]at ht;have ez:decide ((0:Int)=0)=true:=rfl
        by_cases hf:0<m1.faults
        ·rw[if_pos hf]at ht;have ho:=(Bf.rest_err (f:=f') (t:=m.T.length) hqt ht).symm.trans Hrest.out;simp only[List.length_map]at ho
         have hdf:decide (0<m1.faults)=true:=by simpa using hf
         have hsrc:=HW10.out.src
         have hwl:(wayTo (l2.map (·.d)) i).length≤60000:=by
          have:=wayBack_len hsrc i;show ((wayBack _ _ _).reverse).length≤_;rw[List.length_reverse];omega
         obtain ⟨W,hW⟩:∃W,W=wayTo (l2.map (·.d)) i:=⟨_,rfl⟩
         have hgl10:g2<w10.heap.size∧∀(j:Nat) x,l2[j]?=some x→w10.cell? ⟨g2,j*3+1,none⟩=some (.int .i64 x.d.src)∧w10.cell? ⟨g2,j*3+2,none⟩=some (.int .i64 x.d.by_):=by
          obtain ⟨g',c',e',h1,-,h3⟩:=HW10.out.E.lvAt (by omega);cases e';exact ⟨h1,fun j x hx=>⟨(h3 j x hx).2.1,(h3 j x hx).2.2⟩⟩
         have hg2b:g2≠w.heap.size+1+1:=by
          have:=HW10.out.E.rlo g2 rfl;have:=HW10.out.E.tlo;omega
         have hway:∀W',KeepT w10 (w.heap.size+1+1) W'→Calls Tryz.prog 111 #[.slice (some ⟨g2,0,none⟩) l2.length cap2,.int .i64 i] W' fun e w'=>∃va vc,e=.returned (.slice va W.length vc)∧w'.ownsRow 0 3 1 (.slice va W.length vc) W.length (W.map (Value.int .i64))∧Mod noF W' w'∧KeepT w10 (w.heap.size+1+1) w'∧∀g,(Value.slice va W.length vc).ownBlock=some g→w10.heap.size≤g:=fun W' hK=>by
          rw[hW];refine (way_any (cap:=cap2) (Nat.lt_of_lt_of_le hgl10.1 hK.mod.size) (fun j x hx=>⟨hK.mod.cell (hgl10.2 j x hx).1 hg2b,hK.mod.cell (hgl10.2 j x hx).2 hg2b⟩) hi2 (by omega) hsrc).mono ?_;rintro e w' ⟨v',rfl,h1,h2,h3⟩;obtain ⟨va,vc,rfl,-,-⟩:=(own_off h1).slice
          exact ⟨va,vc,rfl,h1,h2,hK.more h2 (fun _ _ e=>e),fun g hg=>Nat.le_trans hK.mod.size (h3 g hg)⟩
         rw[←hW]at hwl ho;have HT:=Lib.hid HW10.out.E.told;have ec:w10.cell? ⟨wP.heap.size,0,none⟩=some (.int .i64 (ends2:Int)):=(cell_of_heap HW10.out.E.cnt 0).trans rfl;have el:=lt_of_block HW10.out.E.cnt
         have heb:wP.heap.size≠w.heap.size+1+1:=by
          have:=HW10.out.E.elo;have:=HW10.out.E.tlo;omega
         have hK0:KeepT w10 (w.heap.size+1+1) w10:=⟨Mod.refl _ _,⟨_,_,_,_,HT.out⟩,lt_of_block HT.out⟩
         have hS:∀W',KeepT w10 (w.heap.size+1+1) W'→(KeepT w10 (w.heap.size+1+1) W'∧W'.cell? ⟨wP.heap.size,0,none⟩=some (.int .i64 (ends2:Int))∧W'.cell? ⟨w.heap.size+1+1,0,none⟩=some (oldC (w.heap.size+1+1) W' 0)∧W'.cell? ⟨w.heap.size+1+1,1,none⟩=some (oldC (w.heap.size+1+1) W' 1)∧W'.cell? ⟨w.heap.size+1+1,2,none⟩=some (oldC (w.heap.size+1+1) W' 2)∧W'.cell? ⟨w.heap.size+1+1,3,none⟩=some (oldC (w.heap.size+1+1) W' 3)∧W'.frozen? ⟨w.heap.size+1+1,0,none⟩=false∧W'.frozen? ⟨w.heap.size+1+1,1,none⟩=false∧W'.frozen? ⟨w.heap.size+1+1,2,none⟩=false∧W'.frozen? ⟨w.heap.size+1+1,3,none⟩=false∧w.heap.size+1+1<W'.heap.size):=fun W' hK=>by
          obtain ⟨k0,k1,k2,k3,k4,k5,k6,k7,k8⟩:=hK.facts;exact ⟨hK,hK.mod.cell ec heb,k0,k1,k2,k3,k4,k5,k6,k7,k8⟩
         have hst:=hS w10 hK0;obtain ⟨i0,hti,hz0,hz1,hz2⟩:=info_parts wayInfo;have HS:=Lib.hid hS;have Hway:=Lib.hid hway;have Ho:=Lib.hid ho;have HK0:=Lib.hid hK0;have HMw:=Lib.hid HW10.out.mod;clear hS hway ho hW ht hsrc hK0 hgl10
         go_wp2_with fail
         refine (pfaults_any HNC.out.px.p).mono ?_;rintro e w11 ⟨rfl,rfl⟩
         go_wp2_with fail
         go_region_held3 (fun W'=>(KeepT w10 (w.heap.size+1+1) W'∧W'.cell? ⟨wP.heap.size,0,none⟩=some (.int .i64 (ends2:Int))∧W'.cell? ⟨w.heap.size+1+1,0,none⟩=some (oldC (w.heap.size+1+1) W' 0)∧W'.cell? ⟨w.heap.size+1+1,1,none⟩=some (oldC (w.heap.size+1+1) W' 1)∧W'.cell? ⟨w.heap.size+1+1,2,none⟩=some (oldC (w.heap.size+1+1) W' 2)∧W'.cell? ⟨w.heap.size+1+1,3,none⟩=some (oldC (w.heap.size+1+1) W' 3)∧W'.frozen? ⟨w.heap.size+1+1,0,none⟩=false∧W'.frozen? ⟨w.heap.size+1+1,1,none⟩=false∧W'.frozen? ⟨w.heap.size+1+1,2,none⟩=false∧W'.frozen? ⟨w.heap.size+1+1,3,none⟩=false∧w.heap.size+1+1<W'.heap.size)) ((refine HS.out _ ?_;first|assumption|exact HK0.out|exact KeepT.drew HK0.out|exact KeepT.alloc HK0.out _|exact (KeepT.alloc HK0.out _).drew|exact KeepT.alloc (by assumption) _|exact (KeepT.alloc (by assumption) _).drew|exact KeepT.set4 (by assumption) _ _ _ _|exact (KeepT.set4 (by assumption) _ _ _ _).drew)) (first|(go_at_call 111;go_split_ands;refine (Hway.out _ ?_).mono ?_;assumption;rintro e wa ⟨va,vc,rfl,hA1,hA2,hA3,hA4⟩)|(refine step_append_mine _ rfl (.tmp 79) (.tmp 81) 26 rfl 3 i0 (.int .i64 0) 1 8 Tryz.underlying26 hti hz0 hz1 hz2 rfl (by decide) (.slice va W.length vc) W.length (W.map (Value.int .i64)) rfl (by exact World.ownsRow.alloc hA1 _) ⟨wa.heap.size,0,none⟩ 1 1 [.int .i64 q] rfl rfl (by exact new_cells wa _ _) (by intro u hu;simp at hu;subst hu;rfl) (by unfold maxLen;omega) (by omega) ?_;intro v4 w15 hown15 hgr15 hfr15 _;have hm15:Mod (fun x=>(Value.slice va W.length vc).ownBlock=some x) wa w15:=appended hgr15 ((Mod.refl noF wa).alloc _);have hK15:KeepT w10 (w.heap.size+1+1) w15:=hA3.more hm15 (fun y hy e=>by have:=hA4 y e;omega);have hlo15:∀g,v4.ownBlock=some g→w10.heap.size≤g:=(fun g hg=>(hfr15 g hg).elim (hA4 g) (fun e=>by have:=hA3.mod.size;first|(simp at e;omega)|omega));obtain ⟨yd,ye,rfl,hle15,-⟩:=(own_off hown15).slice)|(refine step_append_mine _ rfl (.tmp 79) (.tmp 81) 26 rfl 3 i0 (.int .i64 0) 1 8 Tryz.underlying26 hti hz0 hz1 hz2 rfl (by decide) (.slice va W.length vc) W.length (W.map (Value.int .i64)) rfl (by exact hA1) ⟨w10.heap.size,0,none⟩ 1 1 [.int .i64 q] rfl rfl (by exact (fun j u hj=>hA2.cell (new_cells _ _ _ j u hj) (fun e=>e))) (by intro u hu;simp at hu;subst hu;rfl) (by unfold maxLen;omega) (by omega) ?_;intro v4 w15 hown15 hgr15 hfr15 _;have hm15:Mod (fun x=>(Value.slice va W.length vc).ownBlock=some x) wa w15:=appended hgr15 (Mod.refl noF wa);have hK15:KeepT w10 (w.heap.size+1+1) w15:=hA3.more hm15 (fun y hy e=>by have:=hA4 y e;omega);have hlo15:∀g,v4.ownBlock=some g→w10.heap.size≤g:=(fun g hg=>(hfr15 g hg).elim (hA4 g) (fun e=>by have:=hA3.mod.size;first|(simp at e;omega)|omega));obtain ⟨yd,ye,rfl,hle15,-⟩:=(own_off hown15).slice))
         all_goals
          obtain ⟨c0,c1,c2,c3,hblk⟩:=hK15.blk;have hbl:=hK15.lt;have hMw15:Mod noF w w15:=HMw.out.trans hK15.mod (fun y hy e=>by omega);have hints:=(scr_ints (l:=W++[(q:Int)]) (by rw[List.length_append,List.map_append];exact hown15)).1
          obtain ⟨w16,hw16,hC16,hm16,hM16⟩:=told_set (y0:=.int .i64 l2.length) (y1:=.int .i64 ends2) (y2:=.bool true) (y3:=.slice yd (W.length+1) ye) hblk hMw15 (by omega);have hI16:=hints.frame hM16 (fun b hb e=>by have:=hlo15 b hb;omega)
          have r0:w16.cell? ⟨w.heap.size+1+1,0,none⟩=some (.int .i64 l2.length):=(cell_of_heap hC16 0).trans rfl;have r1:w16.cell? ⟨w.heap.size+1+1,1,none⟩=some (.int .i64 ends2):=(cell_of_heap hC16 1).trans rfl
          have r2:w16.cell? ⟨w.heap.size+1+1,2,none⟩=some (.bool true):=(cell_of_heap hC16 2).trans rfl;have r3:w16.cell? ⟨w.heap.size+1+1,3,none⟩=some (.slice yd (W.length+1) ye):=(cell_of_heap hC16 3).trans rfl;have rl:=lt_of_block hC16;have HI16:=Lib.hid hI16;have Hm16:=Lib.hid hm16;rw[←hw16]
          clear hK15 hblk hMw15 hints hC16 hm16 hM16 hw16 hI16 hown15 hA1 hA2 hA3;go_wp2
          refine bodyPost_ret (v:=.tuple #[.agg #[.int .i64 l2.length,.int .i64 ends2,.bool true,.slice yd (W.length+1) ye],.nilIface]) (by simp[results,Tryz.results68,go_sem,r0,r1,r2,r3]) rfl ⟨Hfin2.out _ _ (by
           rw[←Ho.out]
           have hl:(W++[(q:Int)]).length=W.length+1:=by simp
           exact ⟨yd,ye,by rw[hl],by rw[hl];exact HI16.out,by rw[hl];exact fun g hg=>Nat.le_trans HMw.out.size (hlo15 g hg),by rw[hl];exact hle15⟩),Hm16.out⟩
        rw[if_neg hf]at ht
        have hf0:m1.faults=0:=by have:=HNC.out.px.ot.f0;omega
        have Ht:=Lib.hid ht;clear ht hf
        go_wp2_with fail
        refine (pfaults_any HNC.out.px.p).mono ?_;rintro e w11 ⟨rfl,rfl⟩;rw[hf0]
        go_wp2_with fail
        refine (key_any HNC.out.px (by omega)).mono ?_;rintro e w12 ⟨rfl,hm12⟩;have hkb:=key_bytes HNC.out.px (by omega);have W12:=HW10.out.keep0 hm12;have hlook:=W12.E.seen.look hkb;have HNC12:=Lib.hid (HNC.out.keep0 hm12 hs4);have HR12:=Lib.hid (HR10.out.keep0 hm12 hs4);have Hkb:=Lib.hid hkb
        have HW12:=Lib.hid W12;clear hm12 W12 hkb HW10 HNC HR10;have ht:=Ht.out;simp only[List.map_map,Function.comp_def]at ht;clear Ht
        cases hin:(l2.map (·.d.m.key)).contains m1.key with
        |true=>
         rw[hin]at hlook;rw[if_pos hin]at ht;have Hgo3:=Lib.hid ((Bf.rest_ok (f:=f') (t:=m.T.length) hqt ht).symm.trans Hrest.out);clear ht hin;go_wp2
         go_roundw
         case rel=>exact ⟨q+1,l2,ends2,by go_num,by omega,hi2,HW12.out,HR12.out,Hgo3.out⟩
         case measure=>simp[intOf];omega
        |false=>
         rw[hin]at hlook;rw[if_neg (by rw[hin];decide)]at ht;simp only[List.length_map]at ht
         by_cases hfull:l2.length=mo
         ·rw[if_pos hfull]at ht;have ho:=(Bf.rest_err (f:=f') (t:=m.T.length) hqt ht).symm.trans Hrest.out;have HC12:=HW12.out.E.told;have hE12:=HE4.out;have v1:=HNC12.out.low.E.v1;have t0:w12.cell? ⟨w.heap.size+1+1,0,none⟩=some (.int .i64 0):=(cell_of_heap HC12 0).trans rfl
          have tl:=lt_of_block HC12;have t1:w12.cell? ⟨w.heap.size+1+1,1,none⟩=some (.int .i64 0):=(cell_of_heap HC12 1).trans rfl;have t2:w12.cell? ⟨w.heap.size+1+1,2,none⟩=some (.bool false):=(cell_of_heap HC12 2).trans rfl
          have t3:w12.cell? ⟨w.heap.size+1+1,3,none⟩=some (.slice none 0 0):=(cell_of_heap HC12 3).trans rfl;have g0':=free_of_heap HC12 0;have g1':=free_of_heap HC12 1;have g2':=free_of_heap HC12 2;have g3':=free_of_heap HC12 3
          obtain ⟨w13,hw13,hC13,hm13,-⟩:=told_set (y0:=.int .i64 0) (y1:=.int .i64 0) (y2:=.bool false) (y3:=.slice none 0 0) HC12 HW12.out.mod (by omega);have r0:w13.cell? ⟨w.heap.size+1+1,0,none⟩=some (.int .i64 0):=(cell_of_heap hC13 0).trans rfl
          have r1:w13.cell? ⟨w.heap.size+1+1,1,none⟩=some (.int .i64 0):=(cell_of_heap hC13 1).trans rfl;have r2:w13.cell? ⟨w.heap.size+1+1,2,none⟩=some (.bool false):=(cell_of_heap hC13 2).trans rfl;have r3:w13.cell? ⟨w.heap.size+1+1,3,none⟩=some (.slice none 0 0):=(cell_of_heap hC13 3).trans rfl
          have rl:=lt_of_block hC13;have Hm13:=Lib.hid hm13;have Hw13:=Lib.hid hw13;clear hC13 hm13 hw13
          have hde:decide ((l2.length:Int)=(mo:Int))=true:=by simp;omega
          have Ho:=Lib.hid ho;clear ht hin ho HC12
          go_wp2_with fail
          go_region
          all_goals
           rw[←Hw13.out];go_wp2;refine bodyPost_ret (v:=.tuple #[toldZ,errV a 1]) (by simp[results,Tryz.results68,go_sem,r0,r1,r2,r3,errV]) rfl ⟨Hfin2.out _ _ (by rw[←Ho.out];rfl),Hm13.out.drew⟩
         ·rw[if_neg hfull]at ht
          have hde:decide ((l2.length:Int)=(mo:Int))=false:=by simp;omega
          obtain ⟨w13,hput,hs13,hm13⟩:=HW12.out.E.seen.put Hkb.out (by simp;omega);have E13:=HW12.out.E.putKey hm13 hs13;have HN13:=Lib.hid (HNC12.out.keep hm13 HW12.out.E.beM hs4);have HR13:=Lib.hid (HR12.out.keep hm13 HW12.out.E.beM hs4)
          have hM13:Mod noF w w13:=HW12.out.mod.trans hm13 (fun y hy e=>by have:=HW12.out.E.mlo;omega);have HM13:=Lib.hid hM13;have Hgo3:=Lib.hid ((Bf.rest_ok (f:=f') (t:=m.T.length) hqt ht).symm.trans Hrest.out);have HE13:=Lib.hid E13;obtain ⟨i0,hti,hz0,hz1,hz2⟩:=info_parts nodeInfo
          have hrow13:=E13.row;have Hrow13:=Lib.hid hrow13;clear ht hin hs13 hm13 E13 hM13 hrow13
          go_wp2_with (at_builtin;refine wpList_append_mine _ rfl (.tmp 97) (.tmp 102) 188 rfl 187 i0 (.agg #[.pointer none,.int .i64 0,.int .i64 0]) 3 24 Tryz.underlying188 hti hz0 hz1 hz2 rfl (by decide) (.slice (some ⟨g2,0,none⟩) l2.length cap2) l2.length (flat nodeVals 0 l2) rfl (by exact World.ownsRow.alloc Hrow13.out _) ⟨w13.heap.size,0,none⟩ 1 1 (nodeVals l2.length ⟨X1,vs2,mv2,⟨m1,i,q⟩,true⟩) rfl rfl (by exact new_cells_at _ _ _ rfl) (nodes_one _ _) (by unfold maxLen;omega) (by omega) ?_;intro v14 w14 hown14 hgr14 hfr14 _;have hm14:Mod (fun x=>(Value.slice (some ⟨g2,0,none⟩) l2.length cap2).ownBlock=some x) w13 w14:=appended hgr14 ((Mod.refl noF w13).alloc _);obtain ⟨ya,yb,yc,rfl⟩:=slice_of_own hown14;have hfr14':∀g,(Value.slice ya yb yc).ownBlock=some g→(Value.slice (some ⟨g2,0,none⟩) l2.length cap2).ownBlock=some g∨w13.heap.size≤g:=(fun g hg=>(hfr14 g hg).imp id (fun h=>by simp at h;omega));have E14:=HE13.out.push (y:=⟨X1,vs2,mv2,⟨m1,i,q⟩,true⟩) (Mod.refl _ _) hown14 hm14 hfr14' ⟨⟨HN13.out.px.p,HN13.out.px.om.mono (by omega),HN13.out.px.ot.mono (by omega)⟩,HN13.out.low,HN13.out.labs,HN13.out.code⟩ (by have:=HE13.out.elo;have:=lt_of_block HE13.out.cnt;omega);have HN14:=Lib.hid (HN13.out.keep hm14 HE13.out.beL hs4);have HR14:=Lib.hid (HR13.out.keep hm14 HE13.out.beL hs4);have hM14:Mod noF w w14:=(HM13.out.trans hm14 (fun y hy e=>by have:=HE13.out.rlo y e;omega));have HM14:=Lib.hid hM14;have HE14:=Lib.hid E14;clear hown14 hgr14 hfr14 hm14 hfr14' E14 hM14)
          have hen:=HW12.out.en;have hnote:=note_any HE14.out HN14.out.px (by omega);have Hnote:=Lib.hid hnote;clear hnote
          first
           |refine Hnote.out.mono ?_
           |(go_wp2_with fail;refine Hnote.out.mono ?_)
          rintro e w15 ⟨rfl,E15,hm15⟩;have W15:=HW12.out.more hfull rfl HTm.out (by show (i:Int)<_;omega) E15 (HM14.out.trans hm15 (fun y hy e=>by have:=HE14.out.elo;omega));have HR15:=Lib.hid (HR14.out.keep hm15 HE14.out.beE hs4);have HW15:=Lib.hid W15
          have Hgo4:=Lib.hid (show Bf.rest mo m.T.length f' i (q+1) ⟨(l2++[(⟨X1,vs2,mv2,⟨m1,i,q⟩,true⟩:NB)]).map (fun y:NB=>y.d),ends2+(if m1.rest then 1 else 0)⟩=out by rw[List.map_append];exact Hgo3.out);clear W15 E15 hm15;go_wp2
          go_roundw
          case rel=>exact ⟨q+1,_,_,by go_num,by omega,by rw[List.length_append];omega,HW15.out,HR15.out,Hgo4.out⟩
          case measure=>simp[intOf];omega
       ·rw[if_pos (by simpa using hz)]at ht;have Hgo3:=Lib.hid ((Bf.rest_ok (f:=f') (t:=m.T.length) hqt ht).symm.trans Hrest.out)
        have ez:decide (z1=0)=false:=by simpa using hz
        simp only[ez];clear ht ez;go_wp2
        go_roundw
        case rel=>exact ⟨q+1,l2,ends2,by go_num,by omega,hi2,HW10.out,HR10.out,Hgo3.out⟩
        case measure=>simp[intOf];omega
      ·have hd4:decide ((q:Int)<2*(m.T.length:Int))=false:=by simp;omega
       obtain rfl:q=2*m.T.length:=by omega
       obtain ⟨x,hx⟩:∃x,l2[i]?=some x:=⟨_,List.getElem?_eq_getElem hi2⟩;have hxl:=WI2.live i x (Nat.le_refl _) hx
       have c0:wi.cell? ⟨g2,i*3,none⟩=some (.pointer (some ⟨x.X.bX,0,none⟩)):=by have:=(hgc i x hx).1;rwa [hxl,if_pos rfl]at this
       have hff:=hgf (i*3)
       have hii2:(i:Int)<(l2.length:Int):=by omega
       obtain ⟨WD,hD⟩:=WI2.drop hx;have HWD:=Lib.hid WD;have HRD:=Lib.hid (hD RN2);have hgo3:=(Bf.rest_end (most:=mo) (t:=m.T.length) (f:=f') (i:=i) (s:=⟨l2.map (·.d),ends2⟩)).symm.trans hrest;have hdm:=map_drop hx (fun d=>d)
       have Hgo3:=Lib.hid (show Bf.go mo m.T.length f' (i+1) ⟨(l2.set i {x with live:=false}).map (·.d),ends2⟩=out by rw[show (l2.set i {x with live:=false}).map (·.d)=l2.map (·.d)from hdm];exact hgo3);clear WD hD hgo3 hdm hgc hgf hx hxl WI2 RN2 hrest;go_wp2
       go_roundw
       case rel=>exact ⟨i+1,f',_,ends2,by go_num,by rw[List.length_set];omega,by rw[List.length_set];omega,HWD.out,HRD.out,Hgo3.out,by omega⟩
       case measure=>simp[intOf];omega
    ·have hd3:decide ((i:Int)<(l.length:Int))=false:=by simp;omega
     obtain rfl:i=l.length:=by omega
     have ho:=(Bf.go_end (most:=mo) (t:=m.T.length) (f:=f) (i:=l.length) (s:=⟨l.map (·.d),ends⟩) (by simp)).symm.trans hgo;simp only[List.length_map]at ho;have ec:wo.cell? ⟨wP.heap.size,0,none⟩=some (.int .i64 (ends:Int)):=(cell_of_heap WI.E.cnt 0).trans rfl;have el:=lt_of_block WI.E.cnt
     have HCo:=WI.E.told;have hMo:=WI.mod;have t0:wo.cell? ⟨w.heap.size+1+1,0,none⟩=some (.int .i64 0):=(cell_of_heap HCo 0).trans rfl;have tl:=lt_of_block HCo;have t1:wo.cell? ⟨w.heap.size+1+1,1,none⟩=some (.int .i64 0):=(cell_of_heap HCo 1).trans rfl
     have t2:wo.cell? ⟨w.heap.size+1+1,2,none⟩=some (.bool false):=(cell_of_heap HCo 2).trans rfl;have t3:wo.cell? ⟨w.heap.size+1+1,3,none⟩=some (.slice none 0 0):=(cell_of_heap HCo 3).trans rfl;have g0':=free_of_heap HCo 0;have g1':=free_of_heap HCo 1;have g2':=free_of_heap HCo 2
     have g3':=free_of_heap HCo 3;obtain ⟨w13,hw13,hC13,hm13,-⟩:=told_set (y0:=.int .i64 l.length) (y1:=.int .i64 ends) (y2:=.bool false) (y3:=.slice none 0 0) HCo hMo (by omega);have r0:w13.cell? ⟨w.heap.size+1+1,0,none⟩=some (.int .i64 l.length):=(cell_of_heap hC13 0).trans rfl
     have r1:w13.cell? ⟨w.heap.size+1+1,1,none⟩=some (.int .i64 ends):=(cell_of_heap hC13 1).trans rfl;have r2:w13.cell? ⟨w.heap.size+1+1,2,none⟩=some (.bool false):=(cell_of_heap hC13 2).trans rfl;have r3:w13.cell? ⟨w.heap.size+1+1,3,none⟩=some (.slice none 0 0):=(cell_of_heap hC13 3).trans rfl
     have rl:=lt_of_block hC13;have Hm13:=Lib.hid hm13;have Hw13:=Lib.hid hw13;clear hC13 hm13 hw13;have Ho:=Lib.hid ho;clear ho WI RN hgo HCo hMo;go_wp2;rw[←Hw13.out]
     refine bodyPost_ret (v:=.tuple #[.agg #[.int .i64 l.length,.int .i64 ends,.bool false,.slice none 0 0],.nilIface]) (by simp[results,Tryz.results68,go_sem,r0,r1,r2,r3]) rfl ⟨Hfin2.out _ _ (by rw[←Ho.out];rfl),Hm13.out⟩
end
section
open Go.RowKit Qs Qh
variable {w w1 w2 w':World}{a:Nat→Addr}
theorem all_any{n most:Int}{ia ra:Option Addr}{il ic rl rc:Nat}{cw:Value}{R:Int→Int→Bool→Value→Value→World→Prop}(hR:∀(x0 x1:Int) (x2:Bool) (x3 er:Value) (W W':World),R x0 x1 x2 x3 er W→Mod (fun x=>x=w.heap.size+1) W W'→R x0 x1 x2 x3 er W')
  (hEach:∀W,Mod noF w W→w.heap.size+2≤W.heap.size→Calls Tryz.prog 68 #[.agg #[.int .i64 n,.slice ia il ic,.slice ra rl rc],cw,.int .i64 most,allF] W fun e w'=>∃(x0 x1:Int) (x2:Bool) (va:Option Addr) (vn vc:Nat) (er:Value),e=.returned (.tuple #[.agg #[.int .i64 x0,.int .i64 x1,.bool x2,.slice va vn vc],er])∧R x0 x1 x2 (.slice va vn vc) er w'∧Mod noF W w') :
  Calls Tryz.prog 26 #[.agg #[.int .i64 n,.slice ia il ic,.slice ra rl rc],cw,.int .i64 most] w fun e w'=>∃(x0 x1:Int) (x2:Bool) (va:Option Addr) (vn vc:Nat) (er:Value),e=.returned (.tuple #[.agg #[.int .i64 x0,.int .i64 x1,.bool x2,.slice va vn vc],er])∧R x0 x1 x2 (.slice va vn vc) er w'∧Mod noF w w':=by
 obtain ⟨w0,hw0⟩:∃w0,w0=(w.alloc (.cells #[.int .i64 n,.slice ia il ic,.slice ra rl rc] 34)).alloc (.cells #[.int .i64 0,.int .i64 0,.bool false,.slice none 0 0] 62):=⟨_,rfl⟩
 have hm0:Mod noF w w0:=by rw[hw0];exact ((Mod.refl noF w).alloc _).alloc _
 have hA:w0.heap[w.heap.size]?=some (.cells #[.int .i64 n,.slice ia il ic,.slice ra rl rc] 34 (0,0)):=by
  rw[hw0];exact ((Mod.refl noF _).alloc _).heap (heap_alloc_new w _) (fun e=>e)
 have hC:w0.heap[w.heap.size+1]?=some (.cells #[.int .i64 0,.int .i64 0,.bool false,.slice none 0 0] 62 (0,0)):=by
  have:=heap_alloc_new (w.alloc (.cells #[.int .i64 n,.slice ia il ic,.slice ra rl rc] 34)) (.cells #[.int .i64 0,.int .i64 0,.bool false,.slice none 0 0] 62);rw[size1]at this;rw[hw0];exact this
 have s0:w0.cell? ⟨w.heap.size,0,none⟩=some (.int .i64 n):=(cell_of_heap hA 0).trans rfl;have s1:w0.cell? ⟨w.heap.size,1,none⟩=some (.slice ia il ic):=(cell_of_heap hA 1).trans rfl;have s2:w0.cell? ⟨w.heap.size,2,none⟩=some (.slice ra rl rc):=(cell_of_heap hA 2).trans rfl;have sb:=lt_of_block hA
 have He:=Lib.hid (hEach w0 hm0 (by rw[hw0];simp));have Hm0:=Lib.hid hm0;have HC:=Lib.hid hC;have HR:=Lib.hid hR;clear hEach hm0 hA hC hR
 go_enter Tryz.func26,Tryz.ntmps26
 go_wp2_with fail
 rw[←hw0];clear hw0;refine He.out.mono ?_;rintro e w4 ⟨x0,x1,x2,va,vn,vc,er,rfl,hr,hm4⟩;have HC4:=hm4.heap HC.out (fun e=>e);have t0:w4.cell? ⟨w.heap.size+1,0,none⟩=some (.int .i64 0):=(cell_of_heap HC4 0).trans rfl;have tl:=lt_of_block HC4
 have t1:w4.cell? ⟨w.heap.size+1,1,none⟩=some (.int .i64 0):=(cell_of_heap HC4 1).trans rfl;have t2:w4.cell? ⟨w.heap.size+1,2,none⟩=some (.bool false):=(cell_of_heap HC4 2).trans rfl;have t3:w4.cell? ⟨w.heap.size+1,3,none⟩=some (.slice none 0 0):=(cell_of_heap HC4 3).trans rfl
 have f0:=free_of_heap HC4 0;have f1:=free_of_heap HC4 1;have f2:=free_of_heap HC4 2;have f3:=free_of_heap HC4 3;obtain ⟨w5,hw5,hC5,hm5,hm45⟩:=told_set (y0:=.int .i64 x0) (y1:=.int .i64 x1) (y2:=.bool x2) (y3:=.slice va vn vc) HC4 (Hm0.out.trans0 hm4) (by omega)
 have r0:w5.cell? ⟨w.heap.size+1,0,none⟩=some (.int .i64 x0):=(cell_of_heap hC5 0).trans rfl;have r1:w5.cell? ⟨w.heap.size+1,1,none⟩=some (.int .i64 x1):=(cell_of_heap hC5 1).trans rfl;have r2:w5.cell? ⟨w.heap.size+1,2,none⟩=some (.bool x2):=(cell_of_heap hC5 2).trans rfl
 have r3:w5.cell? ⟨w.heap.size+1,3,none⟩=some (.slice va vn vc):=(cell_of_heap hC5 3).trans rfl;have rl5:=lt_of_block hC5;have Hr:=Lib.hid (HR.out _ _ _ _ _ _ _ hr hm45);have Hm5:=Lib.hid hm5;have Hw5:=Lib.hid hw5;clear hr hm45 hm5 hw5 hC5 HC4 hm4 HR He;go_wp2;rw[←Hw5.out]
 refine bodyPost_ret (v:=.tuple #[.agg #[.int .i64 x0,.int .i64 x1,.bool x2,.slice va vn vc],er]) (by simp[results,Tryz.results26,go_sem,r0,r1,r2,r3]) rfl ⟨_,_,_,_,_,_,_,rfl,Hr.out,Hm5.out⟩
theorem map_inj'{α β : Type}{f : α→β}{P : α→Prop}(hf:∀x y,P x→P y→f x=f y→x=y):∀ {l m:List α},(∀x∈l,P x)→(∀x∈m,P x)→l.map f=m.map f→l=m
 |[],[],_,_,_=>rfl
 |[],y :: m,_,_,h=>by simp at h
 |x :: l,[],_,_,h=>by simp at h
 |x :: l,y :: m,hl,hm,h=>by
  simp only[List.map_cons,List.cons.injEq]at h;rw[hf x y (hl x (by simp)) (hm y (by simp)) h.1,map_inj' hf (fun z hz=>hl z (by simp[hz])) (fun z hz=>hm z (by simp[hz])) h.2]
theorem codes_inj{cs ds:List (List Instr)}(h:cs.map (fun c=>c.map rawI)=ds.map (fun c=>c.map rawI))(hf:∀c∈cs,CodeFine c)(hd:∀c∈ds,∀x∈c,x.op<21):cs=ds:=
 map_inj' (P:=fun c:List Instr=>∀x∈c,x.op<21) (fun c d hc hd' e=>map_inj' (P:=fun x:Instr=>x.op<21) (fun x y hx hy e=>rawI_inj hx hy e) hc hd' e) (fun c hc x hx=>insFine_op (hf c hc) hx) hd h
def waysC:List Instr:=[⟨0,0,7,0,[]⟩]
theorem ways_out:eachOut 5 (startM 1 [] [] [waysC])=.told 2 1:=by kernel_rfl
theorem ways_chk:(chkR (waysC.map rawI)).1=0:=by decide +kernel
theorem ways_any(E:ErrsM w a):Calls Tryz.prog 25 #[] w fun e w'=>e=.returned (.bool true)∧Mod noF w w':=by
 obtain ⟨w1,hw1⟩:∃w1,w1=(w.alloc (.cells #[.string ⟨#[99,111,110,115,116]⟩,.int .i64 0,.int .i64 7,.int .i64 0,.string ⟨#[]⟩] 73)).alloc (.cells #[.slice (some ⟨w.heap.size,0,none⟩) 1 1] 46):=⟨_,rfl⟩
 have hm1:Mod noF w w1:=by rw[hw1];exact ((Mod.refl noF w).alloc _).alloc _
 have hh:w1.heap[w.heap.size]?=some (.cells #[.string ⟨#[99,111,110,115,116]⟩,.int .i64 0,.int .i64 7,.int .i64 0,.string ⟨#[]⟩] 73 (0,0)):=by
  rw[hw1];exact ((Mod.refl noF _).alloc _).heap (heap_alloc_new w _) (fun e=>e)
 have hh2:w1.heap[w.heap.size+1]?=some (.cells #[.slice (some ⟨w.heap.size,0,none⟩) 1 1] 46 (0,0)):=by
  have:=heap_alloc_new (w.alloc (.cells #[.string ⟨#[99,111,110,115,116]⟩,.int .i64 0,.int .i64 7,.int .i64 0,.string ⟨#[]⟩] 73)) (.cells #[.slice (some ⟨w.heap.size,0,none⟩) 1 1] 46);rw[size1]at this;rw[hw1];exact this
 have hb1:=lt_of_block hh;have hb2:=lt_of_block hh2
 have hRC:RCode w1 (.slice (some ⟨w.heap.size,0,none⟩) 1 1) (waysC.map rawI):=by
  refine ⟨⟨_,_,rfl,fun i x hx=>?_⟩,fun x hx=>?_⟩
  ·match i,hx with
   |0,hx=>cases hx;exact ⟨_,_,rfl,hb1,(cell_of_heap hh 0).trans rfl,(cell_of_heap hh 1).trans rfl,(cell_of_heap hh 2).trans rfl,(cell_of_heap hh 3).trans rfl,(cell_of_heap hh 4).trans rfl⟩
   |i+1,hx=>simp[waysC]at hx
  ·simp only[waysC,List.map_cons,List.map_nil,List.mem_cons,List.not_mem_nil,or_false]at hx
   rcases hx with rfl;exact Nat.zero_le _
 have hRCs:RCodesAt w1 (.slice (some ⟨w.heap.size+1,0,none⟩) 1 1) [waysC.map rawI] (fun _=>.slice (some ⟨w.heap.size,0,none⟩) 1 1):=by
  refine ⟨_,_,rfl,fun i l hi=>?_⟩
  match i,hi with
  |0,hi=>cases hi;exact ⟨_,_,rfl,hb2,(cell_of_heap hh2 0).trans rfl,hRC,trivial⟩
  |i+1,hi=>simp at hi
 have hnil:RowsAt0 w1 (.slice none 0 0) []:=⟨none,0,rfl,fun i l h=>by simp at h⟩
 have hds:∀c∈[waysC],∀x∈c,x.op<21:=by decide
 have hall:=all_any (w:=w1) (n:=1) (most:=5) (ia:=none) (ra:=none) (il:=0) (ic:=0) (rl:=0) (rc:=0) (cw:=.slice (some ⟨w.heap.size+1,0,none⟩) 1 1) (R:=fun x0 x1 x2 _ er _=>x0=2∧x1=1∧x2=false∧er=.nilIface) (fun _ _ _ _ _ _ _ h _=>h) (fun W hW _=>by
  refine (each_any 1 (.slice none 0 0) (.slice none 0 0) (.slice (some ⟨w.heap.size+1,0,none⟩) 1 1) [] [] [waysC.map rawI] _ 5 W (E.keep (hm1.trans0 hW)) (rows_keep0 hnil hW) (rows_keep0 hnil hW) (hRCs.keep hW) (fun l hl=>by simp at hl;rw[hl];show 1≤maxLen;unfold maxLen;omega)).mono ?_
  rintro e w' ⟨hr,hm⟩
  rcases hr with ⟨hs,-⟩|⟨k,hk,-,i,c,g,hc,-,hne,-⟩|⟨k,cs,hk,-,hcs,hf,h|⟨-,-,h⟩⟩
  ·exact absurd (show ShapeR 1 [] [] [waysC.map rawI]from ⟨by decide,by decide,by decide,by decide,by decide,by decide,rfl,rfl⟩) hs
  ·match i,hc with
   |0,hc=>cases hc;exact absurd ways_chk hne
   |i+1,hc=>simp at hc
  ·omega
  ·obtain rfl:=codes_inj (ds:=[waysC]) hcs hf hds
   obtain rfl:k=1:=by omega
   rw[show (5:Int).toNat=5 from rfl,ways_out]at h
   exact ⟨2,1,false,none,0,0,.nilIface,h,⟨rfl,rfl,rfl,rfl⟩,hm⟩)
 have Hall:=Lib.hid hall;have Hm1:=Lib.hid hm1;clear hall hm1 hRC hRCs hnil hh hh2 hb1 hb2 hds E
 go_enter Tryz.func25,Tryz.ntmps25
 go_wp2_with fail
 rw[←hw1];clear hw1;refine Hall.out.mono ?_;rintro e w2 ⟨x0,x1,x2,va,vn,vc,er,rfl,⟨rfl,rfl,rfl,rfl⟩,hm2⟩;have Hm2:=Lib.hid (Hm1.out.trans0 hm2);clear hm2 Hall;go_wp2;go_ret;exact ⟨rfl,Hm2.out.alloc _⟩
end
section
open Go.RowKit Qs Qh
variable {m m0:M}{most t f i k:Nat}{s s':Bf}
structure NodeOk(m0:M)(L:List Nd)(j:Nat)(x:Nd):Prop where
 src:(x.src<0∧x.m=m0)∨∃(q:Nat) (y:Nd),x.src=q∧q<j∧L[q]?=some y∧y.m.turn x.by_=(x.m,0)
 f0:x.m.faults=0
 cs:x.m.T.map (·.code)=m0.T.map (·.code)
 cl:x.m.cells.length=m0.cells.length
 ok:∃N,OkA N x.m
 rng:0≤x.by_∧x.by_≤1000
def ListOk(m0:M)(L:List Nd):Prop:=∀(j:Nat) x,L[j]?=some x→NodeOk m0 L j x
def Leads(L:List Nd)(j k:Nat):Prop:=∀x,L[j]?=some x→(x.m.turn k).2≠0∨((x.m.turn k).1.faults=0∧∃y∈L,y.m.told=(x.m.turn k).1.told)
def Closed(L:List Nd)(t i:Nat):Prop:=∀j,j<i→∀k,k<2*t→Leads L j k
theorem pre_get{L L':List Nd}(h:L <+: L'){j:Nat}{x:Nd}(hx:L[j]?=some x):L'[j]?=some x:=by
 obtain ⟨r,rfl⟩:=h;rw[List.getElem?_append_left (List.getElem?_eq_some_iff.1 hx).1];exact hx
theorem Leads.pre{L L':List Nd}{j:Nat}(hj:j<L.length)(h:Leads L j k)(hp:L <+: L'):Leads L' j k:=fun x hx=>by
 have h0:=List.getElem?_eq_getElem hj;have:=pre_get hp h0;rw[hx]at this;cases this
 rcases h _ h0 with e|⟨e1,y,e2,e3⟩
 ·exact .inl e
 ·exact .inr ⟨e1,y,hp.subset e2,e3⟩
theorem okA_f0{N:Int}(h:OkA N m):0≤m.faults:=h.2.f0.1
theorem turn_ok(hL:ListOk m0 s.l)(h:s.turn most i k=.ok s')(hk:k≤1000)(hi:i<s.l.length)(hle:s.l.length≤most):ListOk m0 s'.l∧s.l <+: s'.l∧Leads s'.l i k∧s'.l.length≤most:=by
 have hx:=List.getElem?_eq_getElem hi;rw[Bf.turn_at hx]at h;have hok:=hL i _ hx;generalize s.l[i]=x at *
 by_cases h1:(x.m.turn k).2≠0
 ·rw[if_pos h1]at h;cases h;exact ⟨hL,List.prefix_refl _,fun y hy=>by rw[hx]at hy;cases hy;exact .inl h1,hle⟩
 ·rw[if_neg h1]at h
  by_cases h2:0<(x.m.turn k).1.faults
  ·rw[if_pos h2]at h;cases h
  ·rw[if_neg h2]at h;obtain ⟨N,hN⟩:=hok.ok;have hN':=hN.turn k
   have hf:(x.m.turn k).1.faults=0:=by have:=okA_f0 hN';omega
   by_cases h3:(s.l.map fun y=>y.m.key).contains (x.m.turn k).1.key=true
   ·rw[if_pos h3]at h;cases h;refine ⟨hL,List.prefix_refl _,fun y hy=>?_,hle⟩;rw[hx]at hy;cases hy;rw[key_contains]at h3;simp only[List.contains_iff_mem,List.mem_map]at h3;obtain ⟨z,hz,e⟩:=h3;exact .inr ⟨hf,z,hz,e⟩
   ·rw[if_neg h3]at h
    by_cases h4:s.l.length=most
    ·rw[if_pos h4]at h;cases h
    ·rw[if_neg h4]at h;cases h
     have hz:(x.m.turn k).2=0:=by simpa using h1
     have hp:s.l <+: s.l++[⟨(x.m.turn k).1,(i:Int),(k:Int)⟩]:=List.prefix_append _ _;refine ⟨fun j y hy=>?_,hp,fun y hy=>?_,?_⟩
     ·rw[List.getElem?_append]at hy
      split at hy
      ·have o:=hL j y hy;refine ⟨o.src.imp id fun ⟨q,z,e1,e2,e3,e4⟩=>⟨q,z,e1,e2,pre_get hp e3,e4⟩,o.f0,o.cs,o.cl,o.ok,o.rng⟩
      ·rename_i hj
       have hl:=(List.getElem?_eq_some_iff.1 hy).1;simp only[List.length_cons,List.length_nil]at hl
       obtain rfl:j=s.l.length:=by omega
       simp at hy;subst hy;refine ⟨.inr ⟨i,x,rfl,hi,pre_get hp hx,?_⟩,hf,(turn_cs x.m k).trans hok.cs,(turn_clen x.m k).trans hok.cl,⟨_,hN'⟩,by show (0:Int)≤(k:Int)∧(k:Int)≤1000;omega⟩;rw[←hz]
     ·have:=pre_get hp hx;rw[this]at hy;cases hy;exact .inr ⟨hf,_,List.mem_append_right _ (List.mem_singleton.2 rfl),rfl⟩
     ·rw[List.length_append];simp;omega
theorem turns_ok:∀(ks:List Nat) {s s':Bf},(∀k∈ks,k≤1000)→ListOk m0 s.l→s.turns most i ks=.ok s'→i<s.l.length→s.l.length≤most→ListOk m0 s'.l∧s.l <+: s'.l∧(∀k∈ks,Leads s'.l i k)∧s'.l.length≤most
 |[],s,s',hk,hL,h,hi,hle=>by
  cases h;exact ⟨hL,List.prefix_refl _,fun k hk=>(List.not_mem_nil hk).elim,hle⟩
 |k :: ks,s,s',hk,hL,h,hi,hle=>by
  unfold Bf.turns at h
  cases e:s.turn most i k with
  |error o=>rw[e]at h;cases h
  |ok s1=>
   rw[e]at h;simp only at h;obtain ⟨a1,a2,a3,a4⟩:=turn_ok hL e (hk k (by simp)) hi hle;have hi1:i<s1.l.length:=Nat.lt_of_lt_of_le hi a2.length_le;obtain ⟨b1,b2,b3,b4⟩:=turns_ok ks (fun q hq=>hk q (by simp[hq])) a1 h hi1 a4;refine ⟨b1,a2.trans b2,fun q hq=>?_,b4⟩
   rcases List.mem_cons.1 hq with rfl|hq
   ·exact a3.pre hi1 b2
   ·exact b3 q hq
theorem turn_err{o:Out}(h:s.turn most i k=.error o)(hi:i<s.l.length):o=.bound∨∃x,s.l[i]?=some x∧(x.m.turn k).2=0∧0<(x.m.turn k).1.faults∧o=.fault s.l.length s.ends (wayTo s.l i++[(k:Int)]):=by
 have hx:=List.getElem?_eq_getElem hi;rw[Bf.turn_at hx]at h;generalize s.l[i]=x at *
 by_cases h1:(x.m.turn k).2≠0
 ·rw[if_pos h1]at h;cases h
 ·rw[if_neg h1]at h
  by_cases h2:0<(x.m.turn k).1.faults
  ·rw[if_pos h2]at h;cases h;exact .inr ⟨x,hx,by simpa using h1,h2,rfl⟩
  ·rw[if_neg h2]at h
   split at h
   ·cases h
   ·split at h
    ·cases h;exact .inl rfl
    ·cases h
def Found(m0:M)(most:Nat)(way:List Int):Prop:=∃(L:List Nd) (i k:Nat) (x:Nd),L.length≤most∧k≤1000∧ListOk m0 L∧L[i]?=some x∧(x.m.turn k).2=0∧0<(x.m.turn k).1.faults∧way=wayTo L i++[(k:Int)]
theorem turns_err:∀(ks:List Nat) {s:Bf} {o:Out},(∀k∈ks,k≤1000)→ListOk m0 s.l→s.turns most i ks=.error o→i<s.l.length→s.l.length≤most→o=.bound∨∃n e way,o=.fault n e way∧Found m0 most way
 |[],s,o,hk,hL,h,hi,hle=>by cases h
 |k :: ks,s,o,hk,hL,h,hi,hle=>by
  unfold Bf.turns at h
  cases e:s.turn most i k with
  |error o1=>
   rw[e]at h;simp only at h;cases h
   rcases turn_err e hi with r|⟨x,hx,h1,h2,r⟩
   ·exact .inl r
   ·exact .inr ⟨_,_,_,r,s.l,i,k,x,hle,hk k (by simp),hL,hx,h1,h2,rfl⟩
  |ok s1=>
   rw[e]at h;simp only at h;obtain ⟨a1,a2,a3,a4⟩:=turn_ok hL e (hk k (by simp)) hi hle;exact turns_err ks (fun q hq=>hk q (by simp[hq])) a1 h (Nat.lt_of_lt_of_le hi a2.length_le) a4
theorem go_fault(ht6:t≤6):∀(f:Nat) {i:Nat} {s:Bf} {n e:Nat} {way:List Int},ListOk m0 s.l→s.l.length≤most→Bf.go most t f i s=.fault n e way→Found m0 most way
 |0,i,s,n,e,way,_,_,h=>by cases h
 |f+1,i,s,n,e,way,hL,hle,h=>by
  by_cases hlt:i<s.l.length
  ·rw[Bf.go,if_pos hlt]at h
   cases ht:Bf.turns most i (List.range (2*t)) s with
   |error o=>
    rw[ht]at h;simp only at h
    rcases turns_err _ (fun k hk=>by have:=List.mem_range.1 hk;omega) hL ht hlt hle with r|⟨n',e',w',r,hF⟩
    ·rw[r]at h;cases h
    ·rw[r]at h;cases h;exact hF
   |ok s1=>
    rw[ht]at h;simp only at h;obtain ⟨b1,b2,b3,b4⟩:=turns_ok _ (fun k hk=>by have:=List.mem_range.1 hk;omega) hL ht hlt hle;exact go_fault ht6 f b1 b4 h
  ·rw[Bf.go_end hlt]at h;cases h
theorem go_told(ht6:t≤6):∀(f:Nat) {i:Nat} {s:Bf} {n e:Nat},ListOk m0 s.l→Closed s.l t i→i≤s.l.length→s.l.length≤most→f+i=most+1→Bf.go most t f i s=.told n e→∃L,s.l <+: L∧ListOk m0 L∧Closed L t L.length
 |0,i,s,n,e,_,_,hi,hle,hf,_=>by omega
 |f+1,i,s,n,e,hL,hC,hi,hle,hf,h=>by
  by_cases hlt:i<s.l.length
  ·rw[Bf.go,if_pos hlt]at h
   cases ht:Bf.turns most i (List.range (2*t)) s with
   |error o=>
    exfalso;rw[ht]at h;simp only at h
    rcases turns_err _ (fun k hk=>by have:=List.mem_range.1 hk;omega) hL ht hlt hle with r|⟨n',e',w',r,-⟩
    ·rw[r]at h;cases h
    ·rw[r]at h;cases h
   |ok s1=>
    rw[ht]at h;simp only at h;obtain ⟨b1,b2,b3,b4⟩:=turns_ok _ (fun k hk=>by have:=List.mem_range.1 hk;omega) hL ht hlt hle;have hl1:=b2.length_le
    obtain ⟨L,c1,c2,c3⟩:=go_told ht6 f b1 (fun j hj k hk=>by
     by_cases e:j=i
     ·subst e;exact b3 k (List.mem_range.2 hk)
     ·exact (hC j (by omega) k hk).pre (by omega) b2) (by omega) b4 (by omega) h
    exact ⟨L,b2.trans c1,c2,c3⟩
  ·have:i=s.l.length:=by omega
   subst this;exact ⟨s.l,List.prefix_refl _,hL,hC⟩
theorem ListOk.src{L:List Nd}(h:ListOk m0 L):SrcOk L:=fun j x hx=>by
 rcases (h j x hx).src with ⟨e,-⟩|⟨q,y,e,hq,-⟩
 ·omega
 ·omega
theorem way_run{L:List Nd}(h:ListOk m0 L):∀(j:Nat) (x:Nd),L[j]?=some x→m0.run (wayTo L j)=(x.m,((wayTo L j).length:Int)):=by
 intro j
 induction j using Nat.strongRecOn with
 |_ j ih=>
  intro x hx
  rcases (h j x hx).src with ⟨e,em⟩|⟨q,y,e,hq,hy,ht⟩
  ·have:wayTo L j=[]:=by unfold wayTo;rw[wayBack_stop hx (by omega)];rfl
   rw[this,em];rfl
  ·have hw:wayTo L j=wayTo L q++[x.by_]:=by
    unfold wayTo;rw[wayBack_step h.src hx e,List.reverse_cons]
   rw[hw,M.run_snoc,ih q hq y hy];simp only[ht];simp
theorem way_rng{L:List Nd}(h:ListOk m0 L):∀(j:Nat) (x:Nd),L[j]?=some x→∀v∈wayTo L j,0≤v∧v≤1000:=by
 intro j
 induction j using Nat.strongRecOn with
 |_ j ih=>
  intro x hx v hv
  rcases (h j x hx).src with ⟨e,em⟩|⟨q,y,e,hq,hy,ht⟩
  ·have:wayTo L j=[]:=by unfold wayTo;rw[wayBack_stop hx (by omega)];rfl
   rw[this]at hv;cases hv
  ·have hw:wayTo L j=wayTo L q++[x.by_]:=by
    unfold wayTo;rw[wayBack_step h.src hx e,List.reverse_cons]
   rw[hw]at hv
   rcases List.mem_append.1 hv with h1|h1
   ·exact ih q hq y hy v h1
   ·simp at h1;rw[h1];exact (h j x hx).rng
theorem start_list(hf:m0.faults=0){N:Int}(hN:OkA N m0):ListOk m0 (Bf.start m0).l:=fun j x hx=>by
 match j,hx with
 |0,hx=>cases hx;exact ⟨.inl ⟨by show (-1:Int)<0;omega,rfl⟩,hf,rfl,rfl,⟨N,hN⟩,by show (0:Int)≤0∧(0:Int)≤1000;omega⟩
 |j+1,hx=>simp[Bf.start]at hx
theorem each_fault{n e:Nat}{way:List Int}(hf:m0.faults=0){N:Int}(hN:OkA N m0)(h1:1≤most)(h6:m0.T.length≤6)(h:eachOut most m0=.fault n e way) :
  ∃(w:List Int) (k:Int) (m1:M),way=w++[k]∧w.length≤most∧(∀v∈way,0≤v∧v≤1000)∧m0.run w=(m1,(w.length:Int))∧m1.faults=0∧(m1.turn k).2=0∧0<(m1.turn k).1.faults:=by
 obtain ⟨L,i,k,x,hlm,hk,hL,hx,hz,hp,e⟩:=go_fault h6 (most+1) (start_list hf hN) (by simp[Bf.start];omega) h;refine ⟨wayTo L i,k,x.m,e,?_,fun v hv=>?_,way_run hL i x hx,(hL i x hx).f0,hz,hp⟩
 ·have h1:=wayBack_len hL.src i;have h2:=(List.getElem?_eq_some_iff.1 hx).1;show (wayBack _ _ _).reverse.length≤_;rw[List.length_reverse];omega
 ·rw[e]at hv
  rcases List.mem_append.1 hv with h1|h1
  ·exact way_rng hL i x hx v h1
  ·simp at h1;omega
theorem each_told{n e:Nat}(hf:m0.faults=0){N:Int}(hN:OkA N m0)(h1:1≤most)(h6:m0.T.length≤6)(h:eachOut most m0=.told n e)(l:List Int):(m0.run l).1.faults=0:=by
 obtain ⟨L,hp,hL,hC⟩:=go_told h6 (most+1) (start_list hf hN) (fun j hj=>by omega) (Nat.zero_le _) (by simp[Bf.start];omega) (by omega) h;have hx0:L[0]?=some ⟨m0,-1,0⟩:=pre_get hp rfl;have ht1:=hN.2.t1
 have key:∀(l:List Int) (m:M) (j:Nat) (x:Nd),L[j]?=some x→Sim 0 x.m m→(m.run l).1.faults=0:=by
  intro l
  induction l with
  |nil=>
   intro m j x hx hs;have:=(hL j x hx).f0;have:=hs.faults;show m.faults=0;omega
  |cons z l ih=>
   intro m j x hx hs;show (((m.turn z).1).run l).1.faults=0
   have hlen:m.T.length=m0.T.length:=by rw[←hs.T];exact cs_len (hL j x hx).cs
   obtain ⟨q,hq,hzq⟩:∃q:Nat,q<2*m0.T.length∧m.turn z=m.turn q:=by
    refine ⟨(z % (2*(m.T.length:Int))).toNat,?_,?_⟩
    ·have h1:=Int.emod_nonneg z (show (2*(m.T.length:Int))≠0 by omega);have h2:=Int.emod_lt_of_pos z (show 0<(2*(m.T.length:Int)) by omega);omega
    ·unfold M.turn;have h1:=Int.emod_nonneg z (show (2*(m.T.length:Int))≠0 by omega);rw[Int.toNat_of_nonneg h1,Int.emod_emod_of_dvd _ (Int.dvd_refl _)]
   rw[hzq];obtain ⟨s1,s2⟩:=hs.turn q
   rcases hC j (List.getElem?_eq_some_iff.1 hx).1 q hq x hx with e|⟨e1,y,hy,e3⟩
   ·rw[turn_ne (by rw[←s2];exact e)];exact ih m j x hx hs
   ·obtain ⟨i',hi'⟩:=List.mem_iff_getElem?.1 hy;have oy:=hL i' y hi';have ox:=hL j x hx;obtain ⟨N1,k1⟩:=oy.ok;obtain ⟨N2,k2⟩:=ox.ok
    have hs2:Sim 0 y.m (x.m.turn q).1:=told_sim k1 (k2.turn q) (oy.cs.trans ((turn_cs x.m q).trans ox.cs).symm) (oy.cl.trans ((turn_clen x.m q).trans ox.cl).symm) (by rw[oy.f0,e1]) e3;exact ih _ i' y hi' (hs2.trans s1)
 exact key l m0 0 _ hx0 (Sim.refl _)
end
section
open Go.RowKit Qs Qh
structure WfIn(w:World)(a:Nat→Addr)(iw rw_ cw u1:Value)(init regs:List (List Int))(codes:List (List RI))(cv:Nat→Value)(s1:List Int):Prop where
 errs:ErrsM w a
 fI:RowsAt0 w iw init
 fR:RowsAt0 w rw_ regs
 fC:RCodesAt w cw codes cv
 li:init.length≤maxLen
 lr:regs.length≤maxLen
 lc:codes.length≤maxLen
 lk:∀l∈codes,l.length≤maxLen
 c1:ScriptIn w u1 s1
 d1:∀x∈s1,-9223372036854775808≤x∧x≤9223372036854775807
theorem rows0_slice{w:World}{v:Value}{ll:List (List Int)}(h:RowsAt0 w v ll):∃a b c,v=.slice a b c:=by
 obtain ⟨a,c,e,-⟩:=h;exact ⟨a,_,c,e⟩
theorem startOf_c(n:Int)(iw rw_:Value)(w:World)(hi:∃a b c,iw=.slice a b c)(hr:∃a b c,rw_=.slice a b c) :
  Calls Tryz.prog 11 #[.agg #[.int .i64 n,iw,rw_]] w fun e w'=>e=.returned (.agg #[.int .i64 n,iw,rw_])∧Mod noF w w':=by
 obtain ⟨a1,b1,c1,rfl⟩:=hi;obtain ⟨a2,b2,c2,rfl⟩:=hr
 go_enter Tryz.func11,Tryz.ntmps11
 go_wp2;refine bodyPost_ret (v:=.agg #[.int .i64 n,.slice a1 b1 c1,.slice a2 b2 c2]) (by simp[results,Tryz.results11,go_sem]) rfl ⟨rfl,((Mod.refl noF w).alloc _).alloc _⟩
def AllTells(lo:Nat)(n:Int)(init regs:List (List Int))(codes:List (List RI))(x2:Bool)(x3 er:Value)(W:World):Prop:=
 (∃T v,er=.iface T v)∨(er=.nilIface∧∃(k:Nat) (cs:List (List Instr)),n=k∧ShapeR n init regs codes∧cs.map (fun c=>c.map rawI)=codes∧(∀c∈cs,CodeFine c)∧
  ((x2=false∧∃s e,eachOut 500 (startM k init regs cs)=.told s e)∨
   (x2=true∧∃s e way va vc,eachOut 500 (startM k init regs cs)=.fault s e way∧x3=.slice va way.length vc∧IntsAt W x3 way∧(∀g,x3.ownBlock=some g→lo≤g)∧way.length≤vc)))
theorem ints_pre{w:World}{va:Option Addr}{vc:Nat}{a b:List Int}(h:IntsAt w (.slice va (a++b).length vc) (a++b)):IntsAt w (.slice va a.length vc) a:=by
 obtain ⟨x,c,e,hc,hx⟩:=h.at_;cases e;refine ⟨⟨va,vc,rfl,by rw[List.length_append]at hc;omega,fun i y hi=>hx i y ?_⟩⟩;rw[List.getElem?_append_left (List.getElem?_eq_some_iff.1 hi).1];exact hi
theorem ints_suf{w:World}{g o n:Nat}{vc vc':Nat}{a b:List Int}(h:IntsAt w (.slice (some ⟨g,o,none⟩) (a++b).length vc) (a++b))(hn:n=b.length):IntsAt w (.slice (some ⟨g,o+a.length,none⟩) n vc') b:=by
 subst hn;obtain ⟨x,c,e,hc,hx⟩:=h.at_;cases e;refine ⟨⟨_,vc',rfl,by rw[List.length_append]at hc;omega,fun i y hi=>?_⟩⟩;obtain ⟨b',off,e,hb,hcell⟩:=hx (a.length+i) y (by rw[List.getElem?_append_right (by omega)];simpa using hi);cases e;exact ⟨g,o+a.length,rfl,hb,by rw[Nat.add_assoc];exact hcell⟩
theorem walkFaults_walk(n:Int)(iw rw_ cw u1:Value)(init regs:List (List Int))(codes:List (List RI))(cv:Nat→Value)(s1:List Int)(w:World){a:Nat→Addr}(J:WfIn w a iw rw_ cw u1 init regs codes cv s1) :
  Calls Tryz.prog 6 #[.agg #[.int .i64 n,iw,rw_],cw,u1] w fun e w'=>e=.returned (.bool true)∧Mod noF w w':=by
 have HI:=Lib.hid J;have I:=J;clear J;obtain ⟨wz,hwz⟩:∃wz,wz=w.alloc (.cells #[.int .i64 n,iw,rw_] 24):=⟨_,rfl⟩
 have hmz:Mod noF w wz:=by rw[hwz];exact (Mod.refl noF w).alloc _
 have h1:=ways_any (I.errs.keep hmz)
 have hvast:∀W,Mod noF w W→Calls Tryz.prog 9 #[.agg #[.int .i64 n,iw,rw_],cw] W fun e w'=>(∃k:Int,e=.returned (.int .i64 k))∧Mod noF W w':=fun W hW=>
  vast_any n iw rw_ cw init regs codes cv W (rows_keep0 I.fI hW) (rows_keep0 I.fR hW) (I.fC.keep hW) I.li I.lr I.lc I.lk
 have hstart:∀W,Calls Tryz.prog 11 #[.agg #[.int .i64 n,iw,rw_]] W fun e w'=>e=.returned (.agg #[.int .i64 n,iw,rw_])∧Mod noF W w':=fun W=>startOf_c n iw rw_ W (rows0_slice I.fI) (rows0_slice I.fR)
 have hnew:∀W,Mod noF w W→Calls Tryz.prog 10 #[.agg #[.int .i64 n,iw,rw_],cw] W fun e w'=>
   (¬ShapeR n init regs codes∧e=.returned (.tuple #[.pointer none,errV a 1])∧Mod noF W w')∨(∃k:Nat,n=k∧ShapeR n init regs codes∧(NewBad W a codes e w'∨NewGood W k init regs codes e w')):=fun W hW=>
  pnew_any n iw rw_ cw init regs codes cv W (I.errs.keep hW) (rows_keep0 I.fI hW) (rows_keep0 I.fR hW) (I.fC.keep hW) I.lk
 have heach:∀W,Mod noF w W→Calls Tryz.prog 68 #[.agg #[.int .i64 n,iw,rw_],cw,.int .i64 (500:Int),allF] W fun e w'=>EachRes W a n init regs codes 500 e w'∧Mod noF W w':=fun W hW=>
  each_any n iw rw_ cw init regs codes cv 500 W (I.errs.keep hW) (rows_keep0 I.fI hW) (rows_keep0 I.fR hW) (I.fC.keep hW) I.lk
 obtain ⟨ia,ib,ic,ei⟩:=rows0_slice I.fI;obtain ⟨ra,rb,rc,er⟩:=rows0_slice I.fR;obtain ⟨ca,cc,ec,-⟩:=id I.fC;obtain ⟨sa,sc,es,hsl,-⟩:=I.c1.ints.at_;subst ei er ec es
 have hall:∀W,Mod noF w W→Calls Tryz.prog 26 #[.agg #[.int .i64 n,.slice ia ib ic,.slice ra rb rc],.slice ca codes.length cc,.int .i64 (500:Int)] W fun e w'=>∃(x0 x1:Int) (x2:Bool) (va:Option Addr) (vn vc:Nat) (er:Value),e=.returned (.tuple #[.agg #[.int .i64 x0,.int .i64 x1,.bool x2,.slice va vn vc],er])∧AllTells (W.heap.size+2) n init regs codes x2 (.slice va vn vc) er w'∧Mod noF W w':=fun W hW=>by
  refine all_any (R:=fun _ _ x2 x3 er W'=>AllTells (W.heap.size+2) n init regs codes x2 x3 er W') (fun x0 x1 x2 x3 er W1 W2 h hM=>?_) (fun W' hW' hsz=>(heach W' (hW.trans0 hW')).mono fun e w' h=>?_)
  ·rcases h with h|⟨h0,k,cs,h2,h3,h4,h5,h|⟨h6,s,e,way,va,vc,h7,h8,h9,h10,h11⟩⟩
   ·exact .inl h
   ·exact .inr ⟨h0,k,cs,h2,h3,h4,h5,.inl h⟩
   ·exact .inr ⟨h0,k,cs,h2,h3,h4,h5,.inr ⟨h6,s,e,way,va,vc,h7,h8,h9.frame hM (fun b hb e=>by have:=h10 b hb;omega),h10,h11⟩⟩
  ·obtain ⟨hr,hm⟩:=h
   rcases hr with ⟨hs,e1⟩|⟨k,hk,-,i,c,g,hc,-,hne,e1,-⟩|⟨k,cs,hk,hsh,hcs,hf,⟨-,e1⟩|⟨-,-,ho⟩⟩
   ·exact ⟨0,0,false,none,0,0,_,e1,.inl ⟨_,_,rfl⟩,hm⟩
   ·exact ⟨0,0,false,none,0,0,_,e1,.inl ⟨_,_,rfl⟩,hm⟩
   ·exact ⟨0,0,false,none,0,0,_,e1,.inl ⟨_,_,rfl⟩,hm⟩
   ·rw[show (500:Int).toNat=500 from rfl]at ho
    cases hE:eachOut 500 (startM k init regs cs)with
    |bound=>rw[hE]at ho;exact ⟨0,0,false,none,0,0,_,ho,.inl ⟨_,_,rfl⟩,hm⟩
    |told s e'=>rw[hE]at ho;exact ⟨_,_,_,_,_,_,_,ho,.inr ⟨rfl,k,cs,hk,hsh,hcs,hf,.inl ⟨rfl,s,e',hE⟩⟩,hm⟩
    |fault s e' way=>
     rw[hE]at ho;obtain ⟨va,vc,e1,h9,h10,h11⟩:=ho;exact ⟨_,_,_,_,_,_,_,e1,.inr ⟨rfl,k,cs,hk,hsh,hcs,hf,.inr ⟨rfl,s,e',way,va,vc,hE,rfl,h9,fun g hg=>Nat.le_trans hsz (h10 g hg),h11⟩⟩,hm⟩
 have s0:wz.cell? ⟨w.heap.size,0,none⟩=some (.int .i64 n):=by rw[hwz];simp
 have s1':wz.cell? ⟨w.heap.size,1,none⟩=some (.slice ia ib ic):=by rw[hwz];simp
 have s2':wz.cell? ⟨w.heap.size,2,none⟩=some (.slice ra rb rc):=by rw[hwz];simp
 have sb:w.heap.size<wz.heap.size:=by rw[hwz];simp
 have H1:=Lib.hid h1;have Hvast:=Lib.hid hvast;have Hstart:=Lib.hid hstart;have Hnew:=Lib.hid hnew;have Hall:=Lib.hid hall;have Hmz:=Lib.hid hmz;unfold maxLen at hsl;clear h1 hvast hstart hnew hmz I hall heach
 go_enter Tryz.func6,Tryz.ntmps6
 go_wp2_with fail
 rw[←hwz];clear hwz;refine H1.out.mono ?_;rintro e w1 ⟨rfl,hm1⟩;have q0:=hm1.cell s0 (fun e=>e);have q1:=hm1.cell s1' (fun e=>e);have q2:=hm1.cell s2' (fun e=>e);have qb:=Nat.lt_of_lt_of_le sb hm1.size;have Hm1:=Lib.hid (Hmz.out.trans0 hm1);clear hm1 s0 s1' s2' H1
 go_wp2_with fail
 refine (Hvast.out w1 Hm1.out).mono ?_;rintro e w2 ⟨⟨kv,rfl⟩,hm2⟩;have x0:=hm2.cell q0 (fun e=>e);have x1:=hm2.cell q1 (fun e=>e);have x2:=hm2.cell q2 (fun e=>e);have xb:=Nat.lt_of_lt_of_le qb hm2.size;have Hm2:=Lib.hid (Hm1.out.trans0 hm2);clear hm2 q0 q1 q2 Hvast
 by_cases hv:0<kv
 ·have hd:decide (0<kv)=true:=by simpa using hv
  go_wp2;go_ret;exact ⟨rfl,Hm2.out⟩
 have hd:decide (0<kv)=false:=by simpa using hv
 by_cases hs1:300<s1.length
 ·have hd6:decide ((300:Int)<(s1.length:Int))=true:=by simp;omega
  go_wp2;go_ret;exact ⟨rfl,Hm2.out⟩
 have hd6:decide ((300:Int)<(s1.length:Int))=false:=by simp;omega
 go_wp2_with fail
 refine (Hstart.out w2).mono ?_;rintro e w3 ⟨rfl,hm3⟩;have y0:=hm3.cell x0 (fun e=>e);have y1:=hm3.cell x1 (fun e=>e);have y2:=hm3.cell x2 (fun e=>e);have yb:=Nat.lt_of_lt_of_le xb hm3.size;have Hm3:=Lib.hid (Hm2.out.trans0 hm3);clear hm3 x0 x1 x2 xb
 go_wp2_with fail
 refine (Hall.out w3 Hm3.out).mono ?_;rintro e w4 ⟨r0,r1,r2,va,vn,vc,er,rfl,hT,hm4⟩;obtain ⟨w5,hw5⟩:∃w5,w5=w4.alloc (.cells #[.int .i64 r0,.int .i64 r1,.bool r2,.slice va vn vc] 62):=⟨_,rfl⟩
 have hm45:Mod noF w4 w5:=by rw[hw5];exact (Mod.refl noF w4).alloc _
 have hb5:w5.heap[w4.heap.size]?=some (.cells #[.int .i64 r0,.int .i64 r1,.bool r2,.slice va vn vc] 62 (0,0)):=by rw[hw5];exact heap_alloc_new w4 _
 have hm35:=hm4.trans0 hm45;have Hm5:=Lib.hid (Hm3.out.trans0 hm35)
 rcases hT with ⟨T,v,rfl⟩|⟨rfl,k,cs,rfl,hsh,hcs,hfine,hcase⟩
 ·clear hb5 hm45 hm35 hm4;go_wp2;rw[←hw5];go_ret;exact ⟨rfl,Hm5.out⟩
 have z0:=hm35.cell y0 (fun e=>e);have z1:=hm35.cell y1 (fun e=>e);have z2:=hm35.cell y2 (fun e=>e);have zb:=Nat.lt_of_lt_of_le yb hm35.size;have c2:w5.cell? ⟨w4.heap.size,2,none⟩=some (.bool r2):=(cell_of_heap hb5 2).trans rfl
 have c3:w5.cell? ⟨w4.heap.size,3,none⟩=some (.slice va vn vc):=(cell_of_heap hb5 3).trans rfl;have cb:=lt_of_block hb5;have hint5:∀ {l:List Int},IntsAt w4 (.slice va vn vc) l→IntsAt w5 (.slice va vn vc) l:=fun h=>h.frame0 hm45;have Hsh:=Lib.hid hsh;have Hcs:=Lib.hid hcs;have Hfine:=Lib.hid hfine
 have Hcase:=Lib.hid hcase;have HIn:=Lib.hid (show ∀l:List Int,IntsAt w4 (.slice va vn vc) l→IntsAt w5 (.slice va vn vc) l from fun _ h=>hint5 h);clear hb5 hm45 hm35 hm4 y0 y1 y2 hsh hcs hfine hcase hint5;subst hw5
 go_wp2_with fail
 refine (Hstart.out _).mono ?_;rintro e w6 ⟨rfl,hm6⟩;have d2:=hm6.cell c2 (fun e=>e);have d3:=hm6.cell c3 (fun e=>e);have db:=Nat.lt_of_lt_of_le cb hm6.size;have Hm6:=Lib.hid (Hm5.out.trans0 hm6)
 have HIn6:=Lib.hid (show ∀l:List Int,IntsAt w4 (.slice va vn vc) l→IntsAt w6 (.slice va vn vc) l from fun l h=>(HIn.out l h).frame0 hm6);clear hm6 c2 c3 cb z0 z1 z2 zb HIn
 go_wp2_with fail
 refine (Hnew.out w6 Hm6.out).mono ?_;rintro e w7 (⟨hs,-⟩|⟨k2,hk2,-,hb|hg⟩)
 ·exact absurd Hsh.out hs
 ·obtain ⟨i,c,hc,-,hne,-⟩:=hb;rw[←Hcs.out,List.getElem?_map]at hc;obtain ⟨d,hd1,rfl⟩:=Option.map_eq_some_iff.1 hc;exact absurd (fine_chk (Hfine.out d (List.mem_of_getElem? hd1))) hne
 obtain ⟨cs2,X,vs,mv,hcs2,hf2,rfl,hP,hm7,hlow,-⟩:=hg
 obtain rfl:k2=k:=by omega
 obtain rfl:cs2=cs:=codes_inj (hcs2.trans Hcs.out.symm) hf2 (fun c hc x hx=>insFine_op (Hfine.out c hc) hx)
 have hcl:cs2.length=codes.length:=by rw[←hcs2];simp
 obtain ⟨q1,q2,q3,q4,q5,q6,q7,q8⟩:=Hsh.out;have P:PX w7 X vs mv (startM k2 init regs cs2) 1:=⟨hP,startM_okM (by omega) (by omega) (by omega) (rows_fine q7),startM_okT (by omega) (rows_fine q8) hf2⟩
 have L:XLow w w7 a X vs mv:=⟨HI.out.errs,Hm6.out.trans0 hm7,fun x hx=>Nat.le_trans Hm6.out.size (hlow x hx)⟩
 have hLab:LabsOk (startM k2 init regs cs2):=startM_labs hcs2 (fun l hl x hx=>by
  obtain ⟨i,hi⟩:=List.mem_iff_getElem?.1 hl;obtain ⟨_,_,_,hx'⟩:=HI.out.fC;obtain ⟨_,_,_,_,_,hr,_⟩:=hx' i l hi
  exact hr.ok x hx)
 have hm0f:(startM k2 init regs cs2).faults=0:=rfl;have e2:=hm7.cell d2 (fun e=>e);have e3:=hm7.cell d3 (fun e=>e);have eb:=Nat.lt_of_lt_of_le db hm7.size
 have HIn7:=Lib.hid (show ∀l:List Int,IntsAt w4 (.slice va vn vc) l→IntsAt w7 (.slice va vn vc) l∧∀b,(Value.slice va vn vc).ownBlock=some b→l≠[]→b<w6.heap.size from fun l h=>⟨(HIn6.out l h).frame0 hm7,fun b hb hne=>by
  obtain ⟨x,c,e,-,hx⟩:=(HIn6.out l h).at_;obtain ⟨y,hy⟩:∃y,l[0]?=some y:=⟨_,List.getElem?_eq_getElem (List.length_pos_iff.2 hne)⟩;obtain ⟨b',off,e',hlt,-⟩:=hx 0 y hy;cases e;cases e';simp[Value.ownBlock]at hb
  omega⟩)
 have Hlow:=Lib.hid hlow;have hdb:=db;have hs67:=hm7.size;have hcase:=Hcase.out;clear hlow hP hcs2 q1 q2 q3 q4 q5 q6 q7 q8 hm7 d2 d3 db Hnew Hall Hstart Hcase hcl Hfine Hcs Hsh;generalize startM k2 init regs cs2=m0 at *;have h6T:=P.t6;have hokA:OkA 1 m0:=⟨P.om,P.ot⟩;have HP:=Lib.hid P
 have HL:=Lib.hid L;have HLab:=Lib.hid hLab;clear P L hLab
 rcases hcase with ⟨rfl,st,en,hE⟩|⟨rfl,st,en,way,va',vc',hE,hsl2,hI4,-,hvc⟩
 ·have hzero:=each_told hm0f hokA (by decide) h6T hE s1;have Hz:=Lib.hid hzero;clear hzero hE hokA
  go_wp2_with (at_builtin;refine wpList_append_script rfl (.tmp 54) (.tmp 55) rfl rfl (.slice sa s1.length sc) s1 rfl (HI.out.c1.keep HL.out.mod) (by omega) ?_;intro v8 w8 hS;have HS:=Lib.hid hS;clear hS)
  have hrun:=prun_any (HP.out.keep0 HS.out.mod) (by omega) (HL.out.keep HS.out.mod) HLab.out v8 s1 HS.out.ints HS.out.le (by omega) HI.out.d1 (fun _ b hb hx=>by have:=HS.out.own b hb;have:=HP.out.p.lt hx;omega);have Hrun:=Lib.hid hrun;clear hrun
  first
   |refine Hrun.out.mono ?_
   |(go_wp2_with fail;refine Hrun.out.mono ?_)
  rintro e w9 ⟨rfl,⟨vs9,mv9,U⟩,hok,hlab⟩;have L9:=Lib.hid ((HL.out.keep HS.out.mod).up U);have U9:=Lib.hid U.rep;clear U hok hlab Hrun
  go_wp2_with fail
  refine (pfaults_any U9.out).mono ?_;rintro e w10 ⟨rfl,rfl⟩;rw[Hz.out];go_wp2;go_ret;exact ⟨rfl,L9.out.mod⟩
 ·obtain ⟨wl,q,m1,rfl,hwl,hrng,hrun,hf0,hz,hp⟩:=each_fault hm0f hokA (by decide) h6T hE;simp only[Value.slice.injEq]at hsl2;obtain ⟨rfl,rfl,rfl⟩:=hsl2;obtain ⟨hI7,hbl⟩:=HIn7.out _ hI4
  have hlen:(wl++[q]).length=wl.length+1:=by simp
  obtain ⟨g,o,rfl⟩:∃g o,va=some ⟨g,o,none⟩:=by
   obtain ⟨x,c,e,-,hx⟩:=hI7.at_;obtain ⟨b,off,e',-⟩:=hx 0 ((wl++[q])[0]'(by simp)) (List.getElem?_eq_getElem _);cases e;exact ⟨b,off,e'⟩
  have hgl:g<w6.heap.size:=hbl g rfl (by simp);rw[hlen]at e3 hvc
  have hrun1:=prun_any HP.out (by omega) HL.out HLab.out (.slice (some ⟨g,o,none⟩) wl.length vc) wl (ints_pre hI7) (fun _ _ _ e=>by cases e;omega) (by omega) (fun x hx=>by have:=hrng x (List.mem_append_left _ hx);omega) (fun _ b hb hx=>by simp[Value.ownBlock]at hb;subst hb;have:=Hlow.out _ hx;omega)
  rw[hrun]at hrun1;have Hrun1:=Lib.hid hrun1;have HI7:=Lib.hid hI7;have Hrng:=Lib.hid hrng;have Hf0:=Lib.hid hf0
  have hr2:m1.run [q]=((m1.turn q).1,1):=by simp[M.run,hz]
  have Hr2:=Lib.hid hr2
  have hpd:decide (0<(m1.turn q).1.faults)=true:=by simpa using hp
  have hwl1:(wl.length:Int)<(wl.length:Int)+1:=by omega
  have hle0:wl.length≤vc:=by omega
  have hle1:wl.length+1≤vc:=hvc;clear hrun1 hI7 hrng hrun hf0 hr2 hE hI4 hp hbl HIn7 HIn6
  go_wp2_with fail
  refine Hrun1.out.mono ?_;rintro e w8 ⟨rfl,⟨vs8,mv8,U⟩,hok,hlab⟩;have L8:=(HL.out).up U
  have hgX:¬XFoot X vs mv g:=fun hx=>by have:=Hlow.out _ hx;omega
  have hI8:=HI7.out.frame U.mod (fun b hb hx=>by simp[Value.ownBlock]at hb;subst hb;exact hgX hx)
  have hbX:¬XFoot X vs mv w4.heap.size:=fun hx=>by have:=Hlow.out _ hx;omega
  have g3:=U.mod.cell e3 hbX;have gb:=Nat.lt_of_lt_of_le eb U.mod.size;have P8:PX w8 X vs8 mv8 m1 (1+48*(wl.length:Int)):=⟨U.rep,hok.1,hok.2⟩;have hft:∀x,XFoot X vs8 mv8 x→w6.heap.size≤x:=fun x hx=>(U.foot x hx).elim (Hlow.out x) (fun e=>by omega)
  have hrun2:=prun_any P8 (by omega) L8 hlab (.slice (some ⟨g,o+wl.length,none⟩) 1 (vc - wl.length)) [q] (ints_suf hI8 rfl) (fun _ _ _ e=>by cases e;omega) (by simp) (fun x hx=>by have:=Hrng.out x (List.mem_append_right _ hx);omega) (fun _ b hb hx=>by simp[Value.ownBlock]at hb;subst hb;have:=hft _ hx;omega)
  rw[Hr2.out]at hrun2;have Hrun2:=Lib.hid hrun2;have HP8:=Lib.hid P8;have HL8:=Lib.hid L8;clear hrun2 P8 L8 U hok hlab hI8 hft Hrun1
  go_wp2_with fail
  refine (pfaults_any HP8.out.p).mono ?_;rintro e w9 ⟨rfl,rfl⟩;rw[Hf0.out]
  go_wp2_with fail
  refine Hrun2.out.mono ?_;rintro e w10 ⟨rfl,⟨vs10,mv10,U2⟩,hok2,hlab2⟩;have HM10:=Lib.hid (HL8.out.up U2).mod;have HU2:=Lib.hid U2.rep;clear U2 hok2 hlab2 Hrun2
  go_wp2_with fail
  refine (pfaults_any HU2.out).mono ?_;rintro e w11 ⟨rfl,rfl⟩;go_wp2;go_ret;exact ⟨rfl,HM10.out⟩
theorem script_in'{w:World}{a:Option Addr}{len cap:Nat}{z:List Int}(h:IsRow .i64 w a len cap z) :
  ∃l,ScriptIn w (.slice a len cap) l∧(∀x∈l,-9223372036854775808≤x∧x≤9223372036854775807):=by
 obtain ⟨l,h1,h2,h3⟩:=h.ints;refine ⟨l,?_,h2⟩
 rcases h with ⟨rfl,rfl,rfl,rfl⟩|⟨x,rfl,hl,hm,hz,hcell,hwf⟩
 ·obtain ⟨a',c',e,-,-⟩:=h1.at_;simp only[Value.slice.injEq]at e;exact .inl ⟨rfl,List.eq_nil_of_length_eq_zero e.2.1.symm⟩
 ·obtain ⟨a',c',e,-,-⟩:=id h1.at_;simp only[Value.slice.injEq]at e;exact .inr ⟨x,cap,by rw[e.2.1],h1⟩
theorem walkFaults_any(a0:Int)(iw0 rw0:Value)(zi0 zr0:List (List Int))(a1:Option Addr)(len1 cap1:Nat)(z1:List (List RI))(cv1:Nat→Value)(a2:Option Addr)(len2 cap2:Nat)(z2:List Int)(w:World)
  (h0:StartIn w a0 iw0 rw0 zi0 zr0) (h1:InsRows w (.slice a1 len1 cap1) z1 cv1) (h2:IsRow .i64 w a2 len2 cap2 z2) (h5:∃a,ErrsM w a) :
  Calls Tryz.prog 6 #[.agg #[.int .i64 a0,iw0,rw0],.slice a1 len1 cap1,.slice a2 len2 cap2] w fun e w'=>e=.returned (.bool true)∧Below w.heap.size w w':=by
 obtain ⟨a,E⟩:=h5;obtain ⟨l2,hs2,hw2⟩:=script_in' h2;exact (walkFaults_walk a0 iw0 rw0 _ _ zi0 zr0 z1 cv1 l2 w ⟨E,h0.1.1,h0.2.1,h1.1,h0.1.2,h0.2.2,h1.2.1,h1.2.2.1,hs2,hw2⟩).mono fun e w' h=>⟨h.1,h.2.toBelow⟩
end
end Go.Proofs.YtciaficoeajeaaaGreatDoor
