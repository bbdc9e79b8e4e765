/- Texts that belong together, joined. -/
import Derived.Test.YtciaficoeajeaaaGreatDoorWFPmRef
import Derived.Test.YtciaficoeajeaaaGreatDoorWFm8
import Derived.Test.YtciaficoeajeaaaGreatDoorWFPOps
import Derived.Test.YtciaficoeajeaaaGreatDoorWFm7
import Derived.Test.YtciaficoeajeaaaGreatDoorWFm5
import Derived.Deep.RegionHeld3
import Derived.StillTailTactics
import Derived.Test.YtciaficoeajeaaaGreatDoorWFm2
import Derived.Test.YtciaficoeajeaaaGreatDoorWFm4
import Derived.Test.YtciaficoeajeaaaGreatDoorWFStepP
import Derived.Test.YtciaficoeajeaaaGreatDoorWFPmNewC
set_option linter.unusedVariables false
set_option linter.unusedSimpArgs false
set_option linter.unusedSectionVars false
set_option maxHeartbeats 4000000
set_option maxRecDepth 100000
namespace Go.Proofs.YtciaficoeajeaaaGreatDoor
section
open Go.RowKit Qs Qh
variable {b0 w w1 w2 w':World}{a:Nat→Addr}{X:XB}{vs vs':List Value}{mv mv':Value}{m m':M}{N:Int}
def fencedM(m:M)(t:Nat)(pre r:List Wt):M:={m with cells:=(drainAll m.cells pre).1,waits:=m.waits.set t r,faults:=m.faults+(drainAll m.cells pre).2}
theorem fencedM_all{t:Nat}{q:List Wt}(h:m.waits[t]?=some q):fencedM m t q []=m.fence t:=by
 have:m.waitsOf t=q:=by simp[M.waitsOf,List.getD,h]
 unfold fencedM M.fence;rw[this]
theorem okM_okW{q:List Wt}{t:Nat}(om:OkM N m)(h:m.waits[t]?=some q):okW q:=fun x hx=>by
 obtain ⟨h1,h2,h3,-⟩:=om.wval t q h x hx;exact ⟨h1,h2,h3⟩
theorem drained_le(l:List Cell):∀q:List Wt,(drainAll l q).2≤q.length:=by
 intro q
 induction q generalizing l with
 |nil=>exact Nat.le_refl _
 |cons x q ih=>
  have:=ih (drain1 l x).1;show (drainAll (drain1 l x).1 q).2+(if (drain1 l x).2 then 1 else 0)≤q.length+1
  split <;> omega
theorem pmfence_any(H:PX w X vs mv m N)(hN:N≤1000000000)(L:XLow b0 w a X vs mv){t:Nat}(ht:t<m.T.length) :
  Calls Tryz.prog 91 #[.pointer (some ⟨X.bX,0,none⟩),.int .i64 t] w fun e w'=>e=.returned (.tuple #[])∧∃vs',XUp w X vs mv m w' (m.fence t) vs' mv:=by
 obtain ⟨q,hq⟩:∃q,m.waits[t]?=some q:=⟨_,List.getElem?_eq_getElem (by rw[H.ot.len];exact ht)⟩;rw[←fencedM_all hq];have hq8:=H.om.wlen t q hq;have hn6:=H.om.waits
 have htl:t<m.waits.length:=by rw[H.ot.len];exact ht
 have hback:m.waits.set t q=m.waits:=by
  obtain ⟨h1,h2⟩:=List.getElem?_eq_some_iff.1 hq;subst h2;exact List.set_getElem_self h1
 have HH:=Lib.hid H;have HL:=Lib.hid L;have HC:=Lib.hid (H.cells hN);have Hw:=Lib.hid (okM_okW H.om hq);have Hback:=Lib.hid hback;have Hf0:=Lib.hid H.ot.f0;clear H L hq hback
 go_enter Tryz.func91,Tryz.ntmps91
 go_wp2
 go_loopg [] q.length (fun k wr=>∃pre r vs',q=pre++r∧r.length=k∧XUp w X vs mv m wr (fencedM m t pre r) vs' mv)
 case atStart=>
  refine ⟨[],q,vs,rfl,rfl,?_⟩
  have e:fencedM m t [] q=m:=by unfold fencedM;rw[Hback.out];simp[drainAll]
  rw[e];exact XUp.quiet HH.out.p (Mod.refl _ _)
 case round=>
  obtain ⟨pre,r,vs1,hqr,hrk,hU⟩:=hrel
  have hwq:(fencedM m t pre r).waits[t]?=some r:=by show (m.waits.set t r)[t]?=some r;simp[htl]
  have hwl:(fencedM m t pre r).waits.length=m.waits.length:=by show (m.waits.set t r).length=_;simp
  have hfl:(fencedM m t pre r).faults=m.faults+(drainAll m.cells pre).2:=rfl;have hce:(fencedM m t pre r).cells=(drainAll m.cells pre).1:=rfl;have hdl:=drained_le m.cells pre
  have hpl:pre.length≤8:=by rw[hqr,List.length_append]at hq8;omega
  have hrl:r.length≤8:=by rw[hqr,List.length_append]at hq8;omega
  obtain ⟨t0,-⟩:=hU.rep.top_at;have hwait:=pwaiting_ok hU.rep.mem hwq (by rw[hwl];exact hn6);have L1:=HL.out.up hU;have Hwait:=Lib.hid hwait;have HU:=Lib.hid hU;have HL1:=Lib.hid L1;have Hqr:=Lib.hid hqr;have Hwq:=Lib.hid hwq;have Hrk:=Lib.hid hrk;have Hwl:=Lib.hid hwl;have Hfl:=Lib.hid hfl
  have Hce:=Lib.hid hce;clear hU L1 hqr hwq hrk hwait hwl hfl hce
  cases r with
  |nil=>
   go_wp2_with fail
   refine Hwait.out.mono ?_;rintro e w1 ⟨rfl,rfl⟩;go_wp2
   have hp:q=pre:=by have:=Hqr.out;simpa using this
   have hfin:∃vs',XUp w X vs mv m wr (fencedM m t q []) vs' mv:=⟨_,by rw[hp];exact HU.out⟩;exact bodyPost_end (v:=.tuple #[]) (by simp[results,Tryz.results91,go_sem]) rfl ⟨rfl,hfin⟩
  |cons x r=>
   have hx:=Hw.out x (by rw[Hqr.out];simp)
   have d1:decide ((0:Int)<(((x :: r).length:Nat):Int))=true:=by rw[decide_eq_true_eq,List.length_cons];omega
   have d2:decide ((0:Int)<(r.length:Int)+1)=true:=by rw[decide_eq_true_eq];omega
   have hcall:=pdrain_some HU.out.rep.mem HL1.out.P (HC.out.drainAll pre).len (HC.out.drainAll pre).times (HC.out.drainAll pre).words Hwq.out (by rw[Hwl.out];exact hn6) (by simp at hrl;omega);unfold pdrainE at hcall;rw[Hce.out,←drain1_store hx,storeE_ok hx]at hcall
   have hda:=drainAll_snoc m.cells pre x;have Hda:=Lib.hid hda;clear hda
   cases hin:hereIn (drainAll m.cells pre).1 x.c x.g with
   |true=>
    rw[hin,if_pos rfl]at hcall;simp only[errOf',if_true]at hcall;have Hcall:=Lib.hid hcall;have Hin:=Lib.hid hin;clear hcall hin
    go_wp2_with fail
    refine Hwait.out.mono ?_;rintro e w1 ⟨rfl,rfl⟩
    go_wp2_with fail
    refine Hcall.out.mono ?_;rintro e w5 ⟨rfl,vs5,hU5⟩;have hu5:=HU.out.trans (HU.out.rep.mem_up hU5);have Hu5:=Lib.hid hu5;clear hU5 Hcall hu5
    go_wp2_with fail
    refine (pfault_nil Hu5.out.rep).mono ?_;rintro e w6 ⟨rfl,rfl⟩;go_wp2
    go_roundg r.length
    case measure=>have:=Hrk.out;simp at this;omega
    case rel=>
     refine ⟨pre++[x],r,vs5,by rw[Hqr.out];simp,rfl,?_⟩;have:=Hu5.out
     have e:fencedM m t (pre++[x]) r = {fencedM m t pre (x :: r)with cells:=(drain1 (drainAll m.cells pre).1 x).1,waits:=(fencedM m t pre (x :: r)).waits.set t r}:=by
      unfold fencedM;rw[Hda.out];simp[List.set_set,drain1,Hin.out]
     rw[e];exact this
   |false=>
    rw[hin]at hcall;simp only[errOf',errV,if_false,Bool.false_eq_true,show ((7:Int)=0)=False by decide,show (7:Int).toNat - 1=6 from rfl]at hcall;have Hcall:=Lib.hid hcall;have Hin:=Lib.hid hin;clear hcall hin
    go_wp2_with fail
    refine Hwait.out.mono ?_;rintro e w1 ⟨rfl,rfl⟩
    go_wp2_with fail
    refine Hcall.out.mono ?_;rintro e w5 ⟨rfl,vs5,hU5⟩;have hu5:=HU.out.trans (HU.out.rep.mem_up hU5);have Hu5:=Lib.hid hu5;clear hU5 Hcall hu5
    go_wp2_with fail
    refine (pfault_some Hu5.out.rep (by have:=Hf0.out;show 0≤m.faults+((drainAll m.cells pre).2:Int);omega) (by have:=Hf0.out;show m.faults+((drainAll m.cells pre).2:Int)≤_;omega) _ _).mono ?_;rintro e w6 ⟨rfl,rfl⟩;have hu6:=Hu5.out.trans (Hu5.out.rep.setFaults ((fencedM m t pre (x :: r)).faults+1))
    have Hu6:=Lib.hid hu6;clear hu6;go_wp2
    go_roundg r.length
    case measure=>have:=Hrk.out;simp at this;omega
    case rel=>
     refine ⟨pre++[x],r,vs5,by rw[Hqr.out];simp,rfl,?_⟩;have:=Hu6.out
     have e:fencedM m t (pre++[x]) r = {{fencedM m t pre (x :: r)with cells:=(drain1 (drainAll m.cells pre).1 x).1,waits:=(fencedM m t pre (x :: r)).waits.set t r}with faults:=(fencedM m t pre (x :: r)).faults+1}:=by
      unfold fencedM;rw[Hda.out];simp[List.set_set,drain1,Hin.out];omega
     rw[e];exact this
end
section
open Go.RowKit Qs Qh
variable {w w1 w2 w' b0:World}{X:XB}{vs vs':List Value}{mv mv':Value}{m m':M}{N:Int}{a:Nat→Addr}
def insV(op:Nat)(A B C:Int)(to:ByteArray):Value:=.agg #[.string (opStr op),.int .i64 A,.int .i64 B,.int .i64 C,.string to]
theorem two_alloc{W:World}{p q:Addr}{u v:Value}(h:W.cell? p=some u∧W.cell? q=some v)(o:Obj):(W.alloc o).cell? p=some u∧(W.alloc o).cell? q=some v:=
 ⟨((Mod.refl noF W).alloc o).cell h.1 (fun e=>e),((Mod.refl noF W).alloc o).cell h.2 (fun e=>e)⟩
theorem two_drew{W:World}{p q:Addr}{u v:Value}(h:W.cell? p=some u∧W.cell? q=some v):W.drew.cell? p=some u∧W.drew.cell? q=some v:=h
theorem two_set2{W:World}{bp ip bq iq:Nat}{u v:Value}{b:Nat}(h:W.cell? ⟨bp,ip,none⟩=some u∧W.cell? ⟨bq,iq,none⟩=some v)(h1:bp≠b)(h2:bq≠b)(i j:Nat)(x y:Value):((W.setCell ⟨b,i,none⟩ x).setCell ⟨b,j,none⟩ y).cell? ⟨bp,ip,none⟩=some u∧((W.setCell ⟨b,i,none⟩ x).setCell ⟨b,j,none⟩ y).cell? ⟨bq,iq,none⟩=some v:=by
 have hM:Mod (fun k=>k=b) W ((W.setCell ⟨b,i,none⟩ x).setCell ⟨b,j,none⟩ y):=((Mod.refl (fun k=>k=b) W).setCell (fun _=>rfl) x).setCell (fun _=>rfl) y;exact ⟨hM.cell h.1 h1,hM.cell h.2 h2⟩
theorem set2_at{W:World}{b:Nat}{u0 u1:Value}(h0:W.cell? ⟨b,0,none⟩=some u0)(h1:W.cell? ⟨b,1,none⟩=some u1)(x y:Value):((W.setCell ⟨b,0,none⟩ x).setCell ⟨b,1,none⟩ y).cell? ⟨b,0,none⟩=some x∧((W.setCell ⟨b,0,none⟩ x).setCell ⟨b,1,none⟩ y).cell? ⟨b,1,none⟩=some y:=by
 have z0:=World.cell?_setCell_same _ _ x h0
 have z1:(W.setCell ⟨b,0,none⟩ x).cell? ⟨b,1,none⟩=some u1:=by rw[World.cell?_setCell_other (h:=fun e=>by have:=congrArg Addr.off e;simp at this)];exact h1
 exact ⟨by rw[World.cell?_setCell_other (h:=fun e=>by have:=congrArg Addr.off e;simp at this)];exact z0,World.cell?_setCell_same _ _ y z1⟩
theorem XUp.ref2{m1:M}{b:Nat}(h0:PMach w X vs mv m)(hT:m1.T=m.T)(h:XUp w X vs mv m w1 m1 vs mv)(hb:w.heap.size≤b)(x y:Value):XUp w X vs mv m ((w1.setCell ⟨b,0,none⟩ x).setCell ⟨b,1,none⟩ y) m1 vs mv:=
 XUp.aside h0 (fun t k1 hk=>⟨k1,by rw[←hT];exact hk⟩) h hb (((Mod.refl (fun k=>k=b) w1).setCell (fun _=>rfl) x).setCell (fun _=>rfl) y)
theorem mod_ref2{W:World}{b:Nat}(h:Mod noF w W)(hb:w.heap.size≤b)(x y:Value):Mod noF w ((W.setCell ⟨b,0,none⟩ x).setCell ⟨b,1,none⟩ y):=mod_set1 (mod_set1 h hb 0 x) hb 1 y
theorem PMach.reg_free(h:PMach w X vs mv m){t:Nat}{k:Thr}(ht:m.T[t]?=some k)(j:Nat):w.frozen? ⟨X.bL,j,none⟩=false:=(h.thr_at ht).2.1 j
theorem look_load{c g:Int}{rc:Nat}(hc:rc<4)(hin:hereIn m.cells c g=true)(q:List Wt):ploadV m.cells q c g rc=Qs.look q c g rc (getWord m.cells c.toNat rc)∧(loadE m.cells c g rc).2=0:=by
 have he:loadE m.cells c g rc=(getWord m.cells c.toNat rc,0):=by unfold loadE;rw[if_pos hin,if_pos (by omega)];rfl
 exact ⟨by unfold ploadV;rw[he];rfl,by rw[he]⟩
variable {t:Nat}{q:List Wt}{c g v o:Int}{rc:Nat}
theorem load0(hc:rc<4)(hin:hereIn m.cells c g=true):loadE m.cells c g rc=(getWord m.cells c.toNat rc,0):=by
 unfold loadE;rw[if_pos hin,if_pos (by omega)];rfl
theorem put_modify{ws:List (List Wt)}(hq:ws[t]?=some q)(x:Wt):ws.set t (q++[x])=ws.modify t fun l=>l++[x]:=by
 rw[modify_get _ hq]
theorem set_same{ws:List (List Wt)}(hq:ws[t]?=some q):ws.set t q=ws:=by
 obtain ⟨h1,h2⟩:=List.getElem?_eq_some_iff.1 hq;subst h2;exact List.set_getElem_self h1
theorem PMach.stored_at(P:PMach w X vs mv m)(L:XLow b0 w a X vs mv)(C:CellsOk m.cells)(h6:m.waits.length≤6)(hq:m.waits[t]?=some q)(h8:q.length<8)(hc:rc<4)(hin:hereIn m.cells c g=true)(hv:isWord v=true) :
  Calls Tryz.prog 90 #[.pointer (some ⟨X.P.bM,0,none⟩),.int .i64 t,.agg #[.int .i64 c,.int .i64 g],.int .i64 rc,.int .i64 v] w fun e w'=>e=.returned .nilIface∧∃vs',XUp w X vs mv m w' (putM m t ⟨c,g,rc,v⟩) vs' mv:=by
 have hl:=load0 hc hin
 have hs:pstE m.cells q c g rc v=0:=by unfold pstE;rw[hl];simp[hv];omega
 refine (pstore_any P.mem L.E.four C h6 hq (by omega) c g rc v).mono ?_;rintro e w' ⟨rfl,vs1,hU⟩;rw[hs]at hU ⊢;refine ⟨rfl,vs1,?_⟩;have:=P.mem_up hU;rw[if_pos rfl,put_modify hq]at this;exact this
theorem PMach.swap_ok(P:PMach w X vs mv m)(L:XLow b0 w a X vs mv)(C:CellsOk m.cells)(h6:m.waits.length≤6)(hq:m.waits[t]?=some [])(hc:rc<4)(hin:hereIn m.cells c g=true)(hv:isWord v=true) :
  Calls Tryz.prog 92 #[.pointer (some ⟨X.P.bM,0,none⟩),.int .i64 t,.agg #[.int .i64 c,.int .i64 g],.int .i64 rc,.int .i64 v] w fun e w'=>e=.returned (.tuple #[.int .i64 (getWord m.cells c.toNat rc),.nilIface])∧∃vs',XUp w X vs mv m w' {m with cells:=Qs.setWord m.cells c.toNat rc v} vs' mv:=by
 refine (pswap_ok P.mem L.P C h6 hq (by simp) (fun x hx=>by simp at hx) c g rc v _ (load0 hc hin) rfl hv).mono ?_;rintro e w' ⟨rfl,vs1,hU⟩;refine ⟨rfl,vs1,?_⟩;have:=P.mem_up hU;rw[set_same hq]at this;exact this
theorem PMach.cas_ok(P:PMach w X vs mv m)(L:XLow b0 w a X vs mv)(C:CellsOk m.cells)(h6:m.waits.length≤6)(hq:m.waits[t]?=some [])(hc:rc<4)(hin:hereIn m.cells c g=true)(hv:isWord v=true)(ho:isWord o=true) :
  Calls Tryz.prog 93 #[.pointer (some ⟨X.P.bM,0,none⟩),.int .i64 t,.agg #[.int .i64 c,.int .i64 g],.int .i64 rc,.int .i64 o,.int .i64 v] w fun e w'=>e=.returned (.tuple #[.int .i64 (getWord m.cells c.toNat rc),.nilIface])∧∃vs',XUp w X vs mv m w' (if getWord m.cells c.toNat rc=o then {m with cells:=Qs.setWord m.cells c.toNat rc v}else m) vs' mv:=by
 refine (pcas_ok P.mem L.P C h6 hq (by simp) (fun x hx=>by simp at hx) c g rc o v _ (load0 hc hin) rfl hv ho).mono ?_;rintro e w' ⟨rfl,vs1,hU⟩;refine ⟨rfl,vs1,?_⟩;have:=P.mem_up hU;rw[set_same hq]at this;simp only[Int.toNat_natCast,drainAll]at this
 by_cases e:getWord m.cells c.toNat rc=o
 ·simp only[e,if_true]at this ⊢;exact this
 ·simp only[e,if_false]at this ⊢;exact this
theorem PMach.free_ok(P:PMach w X vs mv m)(L:XLow b0 w a X vs mv)(C:CellsOk m.cells)(h6:m.waits.length≤6)(hq:m.waits[t]?=some [])(hin:hereIn m.cells c g=true) :
  Calls Tryz.prog 95 #[.pointer (some ⟨X.P.bM,0,none⟩),.int .i64 t,.agg #[.int .i64 c,.int .i64 g]] w fun e w'=>e=.returned .nilIface∧∃vs',XUp w X vs mv m w' (freeM m c.toNat) vs' mv:=by
 refine (pfree_ok P.mem L.P C h6 hq (by simp) (fun x hx=>by simp at hx) c g _ (load0 (rc:=0) (by omega) hin) rfl).mono ?_;rintro e w' ⟨rfl,vs1,hU⟩;refine ⟨rfl,vs1,?_⟩;have:=P.mem_up hU;rw[set_same hq]at this;exact this
theorem PMach.drain_ok(P:PMach w X vs mv m)(L:XLow b0 w a X vs mv)(C:CellsOk m.cells)(h6:m.waits.length≤6){x:Wt}{r:List Wt}(hq:m.waits[t]?=some (x :: r))(h8:r.length≤8)(hx:isWord x.v=true∧0≤x.w∧x.w<4) :
  Calls Tryz.prog 57 #[.pointer (some ⟨X.P.bM,0,none⟩),.int .i64 t] w fun e w'=>e=.returned (if hereIn m.cells x.c x.g=true then .nilIface else errV a 6)∧∃vs',XUp w X vs mv m w' {m with cells:=(drain1 m.cells x).1,waits:=m.waits.set t r} vs' mv:=by
 have hcall:=pdrain_some P.mem L.P C.len C.times C.words hq h6 h8;unfold pdrainE at hcall;rw[←drain1_store hx,storeE_ok hx]at hcall;refine hcall.mono ?_;rintro e w' ⟨rfl,vs1,hU⟩;refine ⟨?_,vs1,P.mem_up hU⟩;cases hereIn m.cells x.c x.g <;> simp[errOf']
theorem cells_fence(C:CellsOk m.cells)(t:Nat):CellsOk (m.fence t).cells:=C.drainAll _
theorem here_fence(hin:hereIn m.cells c g=true)(t:Nat):hereIn (m.fence t).cells c g=true:=by
 show hereIn (drainAll m.cells _).1 c g=true;rw[here_drained];exact hin
theorem waits_fence(hq:m.waits[t]?=some q):(m.fence t).waits[t]?=some []∧(m.fence t).waits.length=m.waits.length:=by
 have:=(List.getElem?_eq_some_iff.1 hq).1;exact ⟨by show (m.waits.set t [])[t]?=some [];simp[this],by show (m.waits.set t []).length=_;simp⟩
end
section
open Go.RowKit Qs Qh
variable {w w1 w2 w' b0:World}{X:XB}{vs vs':List Value}{mv mv':Value}{m m':M}{N:Int}{a:Nat→Addr}
theorem ptouch_label(H:PX w X vs mv m N)(hN:N≤1000000000)(L:XLow b0 w a X vs mv){t:Nat}(ht:t<m.T.length){h:Thr}(hh:m.T[t]?=some h)(h8:h.regs.length=8){A B C:Int}{to:ByteArray} :
  Calls Tryz.prog 47 #[.pointer (some ⟨X.bX,0,none⟩),.int .i64 t,insV 17 A B C to] w fun e w'=>e=.returned (.tuple #[])∧∃vs',XUp w X vs mv m w' (m) vs' mv:=by
 obtain ⟨t0,t1,-,-,-,t5⟩:=H.p.top_at;have hl5:=(H.p.thr_at hh).2.2;have ht6:=H.t6;have HH:=Lib.hid H;have HL:=Lib.hid L;have Hh:=Lib.hid hh;clear H L hh;unfold insV;simp only[opStr]
 go_enter Tryz.func47,Tryz.ntmps47
 go_wp2;refine bodyPost_end (v:=.tuple #[]) (by simp[results,Tryz.results47,go_sem]) rfl ⟨rfl,?_⟩;exact ⟨vs,XUp.quiet HH.out.p (by repeat (first|exact Mod.refl _ _|refine Mod.drew ?_|refine Mod.drewN ?_ _|refine Mod.alloc ?_ _))⟩
theorem ptouch_fence(H:PX w X vs mv m N)(hN:N≤1000000000)(L:XLow b0 w a X vs mv){t:Nat}(ht:t<m.T.length){h:Thr}(hh:m.T[t]?=some h)(h8:h.regs.length=8){A B C:Int}{to:ByteArray} :
  Calls Tryz.prog 47 #[.pointer (some ⟨X.bX,0,none⟩),.int .i64 t,insV 12 A B C to] w fun e w'=>e=.returned (.tuple #[])∧∃vs',XUp w X vs mv m w' (m.fence t) vs' mv:=by
 have Hf:=Lib.hid (fun W (hW:Mod noF w W)=>pmfence_any (H.keep0 hW) hN (L.keep hW) ht);obtain ⟨t0,t1,-,-,-,t5⟩:=H.p.top_at;have hl5:=(H.p.thr_at hh).2.2;have ht6:=H.t6;have HH:=Lib.hid H;have HL:=Lib.hid L;have Hh:=Lib.hid hh;clear H L hh;unfold insV;simp only[opStr]
 go_enter Tryz.func47,Tryz.ntmps47
 go_wp2_with fail
 refine (Hf.out _ (by repeat (first|exact Mod.refl _ _|refine Mod.drew ?_|refine Mod.drewN ?_ _|refine Mod.alloc ?_ _))).mono ?_;rintro e w7 ⟨rfl,vs1,hU7⟩;have HU7:=Lib.hid hU7;clear hU7;go_wp2
 refine bodyPost_end (v:=.tuple #[]) (by simp[results,Tryz.results47,go_sem]) rfl ⟨rfl,?_⟩;exact ⟨vs1,(XUp.quiet HH.out.p (by repeat (first|exact Mod.refl _ _|refine Mod.drew ?_|refine Mod.drewN ?_ _|refine Mod.alloc ?_ _))).trans HU7.out⟩
theorem fence_ok(om:OkM N m)(ot:OkT N m)(t:Nat):OkM (N+8) (m.fence t)∧OkT (N+8) (m.fence t):=by
 have hN:=om.N0
 by_cases htl:t<m.waits.length
 ·obtain ⟨q,hq⟩:∃q,m.waits[t]?=some q:=⟨_,List.getElem?_eq_getElem htl⟩
  have hwo:m.waitsOf t=q:=by simp[M.waitsOf,List.getD,hq]
  have h1:=(drainAll_ok q om (fun x hx=>(om.wval t q hq x hx).1)).setWaits (t:=t) (l:=[]) (by simp) (fun x hx=>by simp at hx);have h2:=drainAll_le q m.cells;have h3:=om.wlen t q hq
  have e:m.fence t = {m with cells:=(drainAll m.cells q).1,waits:=m.waits.set t [],faults:=m.faults+(drainAll m.cells q).2}:=by unfold M.fence;rw[hwo]
  rw[e];have h1:=h1.mono (show N≤N+8 by omega);exact ⟨⟨h1.cells1,h1.cells,h1.words,h1.times,h1.waits,h1.wlen,h1.wval,h1.N0⟩,⟨by simpa using ot.len,ot.t1,ot.regs,ot.code,ot.marks,by have:=ot.f0;simp only;omega⟩⟩
 ·have hwo:m.waitsOf t=[]:=by simp[M.waitsOf,List.getD,List.getElem?_eq_none (Nat.le_of_not_lt htl)]
  have e:m.fence t=m:=by unfold M.fence;rw[hwo];simp only[drainAll];rw[List.set_eq_of_length_le (Nat.le_of_not_lt htl)];simp
  rw[e];exact ⟨om.mono (by omega),ot.mono (by omega)⟩
theorem force_T(m:M):∀k,(m.force k).T=m.T
 |0=>rfl
 |k+1=>by show (m.force k).T=m.T;exact force_T m k
theorem force_ok(om:OkM N m)(ot:OkT N m):∀k:Nat,OkM (N+8*k) (m.force k)∧OkT (N+8*k) (m.force k)
 |0=>by simpa[M.force]using And.intro om ot
 |k+1=>by
  obtain ⟨h1,h2⟩:=force_ok om ot k;have:=fence_ok h1 h2 k;rw[show N+8*((k+1:Nat):Int)=N+8*(k:Int)+8 by omega];exact this
theorem ptouch_force(H:PX w X vs mv m N)(hN:N≤900000000)(L:XLow b0 w a X vs mv){t:Nat}(ht:t<m.T.length){h:Thr}(hh:m.T[t]?=some h)(h8:h.regs.length=8){A B C:Int}{to:ByteArray} :
  Calls Tryz.prog 47 #[.pointer (some ⟨X.bX,0,none⟩),.int .i64 t,insV 13 A B C to] w fun e w'=>e=.returned (.tuple #[])∧∃vs',XUp w X vs mv m w' (m.force m.T.length) vs' mv:=by
 obtain ⟨t0,t1,-,-,-,t5⟩:=H.p.top_at;have hl5:=(H.p.thr_at hh).2.2;have ht6:=H.t6;have HH:=Lib.hid H;have HL:=Lib.hid L;have Hh:=Lib.hid hh;clear H L hh;unfold insV;simp only[opStr]
 go_enter Tryz.func47,Tryz.ntmps47
 go_wp2_with fail
 go_loopw [22,263] (fun _ i wr=>∃k:Nat,k≤m.T.length∧i=.int .i64 k∧∃vs',XUp w X vs mv m wr (m.force k) vs' mv) (fun _ i _=>m.T.length - (intOf i).toNat)
 case atStart=>exact ⟨0,Nat.zero_le _,rfl,vs,XUp.quiet HH.out.p (by repeat (first|exact Mod.refl _ _|refine Mod.drew ?_|refine Mod.drewN ?_ _|refine Mod.alloc ?_ _))⟩
 case round=>
  obtain ⟨k,hk,rfl,vs1,hU⟩:=hrel
  by_cases hlt:k<m.T.length
  ·have hd:decide ((k:Int)<(m.T.length:Int))=true:=by rw[decide_eq_true_eq];omega
   have hki:(k:Int)<(m.T.length:Int):=by omega
   obtain ⟨h1,h2⟩:=force_ok HH.out.om HH.out.ot k;have hcall:=pmfence_any (t:=k) ⟨hU.rep,h1,h2⟩ (by omega) (HL.out.up hU) (by rw[force_T];exact hlt);have HU:=Lib.hid hU;have Hcall:=Lib.hid hcall;clear hU hcall h1 h2
   go_wp2_with fail
   refine Hcall.out.mono ?_;rintro e w7 ⟨rfl,vs2,hU7⟩;have HU7:=Lib.hid hU7;clear hU7;go_wp2
   go_roundw
   case rel=>exact ⟨k+1,by omega,by go_num,vs2,HU.out.trans HU7.out⟩
   case measure=>simp[intOf];omega
  ·have hd:decide ((k:Int)<(m.T.length:Int))=false:=by rw[decide_eq_false_iff_not];omega
   have hkk:k=m.T.length:=by omega
   subst hkk;have HU:=Lib.hid hU;clear hU;go_wp2;refine bodyPost_end (v:=.tuple #[]) (by simp[results,Tryz.results47,go_sem]) rfl ⟨rfl,?_⟩;exact ⟨vs1,HU.out⟩
end
section
open Go.RowKit Qs Qh
variable {m m':M}{N N':Int}
def OkA(N:Int)(m:M):Prop:=OkM N m∧OkT N m
theorem OkA.mono(h:OkA N m)(hN:N≤N'):OkA N' m:=⟨h.1.mono hN,h.2.mono hN⟩
theorem OkA.thr{T:List Thr}(h:OkA N m)(hl:T.length=m.T.length)(hT:∀(u:Nat) k,T[u]?=some k→(k.regs.length=8∧∀v∈k.regs,isWord v=true)∧k.pc≤k.code.length∧CodeOk k.code):OkA N {m with T:=T}:=
 ⟨⟨h.1.cells1,h.1.cells,h.1.words,h.1.times,h.1.waits,h.1.wlen,h.1.wval,h.1.N0⟩,⟨by rw[hl];exact h.2.len,by rw[hl];exact h.2.t1,fun u k hk=>(hT u k hk).1,fun u k hk=>(hT u k hk).2,h.2.marks,h.2.f0⟩⟩
theorem get_set{α : Type}{l:List α}{t u:Nat}{x k : α}(h:(l.set t x)[u]?=some k):k=x∨l[u]?=some k:=by
 rw[List.getElem?_set]at h
 split at h
 ·split at h
  ·cases h;exact .inl rfl
  ·cases h
 ·exact .inr h
theorem OkA.setReg(h:OkA N m)(t:Nat)(a:Int){v:Int}(hv:isWord v=true):OkA N (m.setReg t a v):=by
 unfold M.setReg;refine h.thr (by simp) fun u k hk=>?_;rw[List.getElem?_modify]at hk;obtain ⟨c0,h0,rfl⟩:=Option.map_eq_some_iff.1 hk;have h1:=h.2.regs u c0 h0;have h2:=h.2.code u c0 h0
 split
 ·exact ⟨⟨by simpa using h1.1,fun y hy=>by
   rcases List.mem_or_eq_of_mem_set hy with e|rfl
   ·exact h1.2 y e
   ·exact hv⟩,h2⟩
 ·exact ⟨h1,h2⟩
theorem OkA.setPc(h:OkA N m)(t:Nat)(p:Nat)(hp:∀k,m.T[t]?=some k→p≤k.code.length):OkA N (m.setPc t p):=by
 unfold M.setPc;refine h.thr (by simp) fun u k hk=>?_;rw[List.getElem?_modify]at hk;obtain ⟨c0,h0,rfl⟩:=Option.map_eq_some_iff.1 hk;have h1:=h.2.regs u c0 h0;have h2:=h.2.code u c0 h0
 by_cases e:t=u
 ·subst e;simp only[if_pos];exact ⟨h1,hp c0 h0,h2.2⟩
 ·simp only[if_neg e];exact ⟨h1,h2⟩
theorem OkA.faults(h:OkA N m){k:Int}(h0:m.faults≤k)(hk:k≤N')(hN:N≤N'):OkA N' {m with faults:=k}:=by
 have h1:=h.1.mono hN;have h2:=h.2.mono hN;have:=h.2.f0;exact ⟨⟨h1.cells1,h1.cells,h1.words,h1.times,h1.waits,h1.wlen,h1.wval,h1.N0⟩,⟨h2.len,h2.t1,h2.regs,h2.code,h2.marks,⟨by simp only;omega,hk⟩⟩⟩
theorem OkA.fault(h:OkA N m):OkA (N+1) m.fault:=by
 have:=h.2.f0;exact h.faults (by omega) (by omega) (by omega)
theorem OkA.mem{cells:List Cell}{waits:List (List Wt)}(h:OkA N m)(hm:OkM N' {m with cells:=cells,waits:=waits})(hl:waits.length=m.waits.length)(hN:N≤N'):OkA N' {m with cells:=cells,waits:=waits}:=by
 have h2:=h.2.mono hN;exact ⟨hm,⟨by rw[hl];exact h2.len,h2.t1,h2.regs,h2.code,h2.marks,h2.f0⟩⟩
theorem OkA.fence(h:OkA N m)(t:Nat):OkA (N+8) (m.fence t):=fence_ok h.1 h.2 t
theorem OkA.force(h:OkA N m)(k:Nat):OkA (N+8*k) (m.force k):=force_ok h.1 h.2 k
theorem OkA.drain(h:OkA N m)(t:Nat):OkA (N+1) (m.drain t).1:=by
 unfold M.drain
 split
 ·exact h.mono (by omega)
 ·rename_i x r hq
  have hl:m.waits[t]?=some (x :: r):=by
   unfold M.waitsOf List.getD at hq
   cases h':m.waits[t]? with
   |none=>rw[h']at hq;cases hq
   |some l=>rw[h']at hq;exact congrArg some hq
  have hv:=h.1.wval t _ hl;have h8:=h.1.wlen t _ hl;have h1:=(h.1.drain1 (hv x (by simp)).1).setWaits (t:=t) (l:=r) (by simp at h8;omega) (fun y hy=>by simpa[drain1_length]using hv y (by simp[hy]));have h2:=h.mem (cells:=(drain1 m.cells x).1) (waits:=m.waits.set t r) h1 (by simp) (Int.le_refl _)
  have:=h.2.f0;exact h2.faults (by simp only;split <;> omega) (by split <;> omega) (by omega)
theorem OkA.setW(h:OkA N m)(c j:Nat){v:Int}(hv:isWord v=true):OkA N {m with cells:=Qs.setWord m.cells c j v}:=
 h.mem (waits:=m.waits) (h.1.setWord c j hv) rfl (Int.le_refl _)
theorem OkA.regW(h:OkA N m)(t:Nat)(a:Int):isWord ((m.thr t).reg a)=true:=by
 unfold Thr.reg M.thr List.getD
 cases ht:m.T[t]? with
 |none=>simp[isWord,W32]
 |some k=>
  simp only[Option.getD_some]
  cases hr:k.regs[a.toNat]? with
  |none=>rfl
  |some v=>exact (h.2.regs t k ht).2 v (List.mem_of_getElem? hr)
theorem sum_word(op:Nat){a b:Int}(ha:isWord a=true)(hb:isWord b=true):isWord (sum2 op a b)=true:=by
 have h1:=of_isWord ha;have h2:=of_isWord hb;unfold sum2
 split
 ·split
  ·rename_i h;unfold W32 at h ⊢;exact isWord_of (by omega) (by omega)
  ·rename_i h;unfold W32 at h;exact isWord_of (by omega) (by omega)
 ·split
  ·unfold W32;exact isWord_of (by omega) (by omega)
  ·exact isWord_of (by omega) (by omega)
 ·exact word_and ha hb
 ·exact word_xor ha hb
theorem allocAt_here:∀(l:List Cell) (s i:Nat) (n:Int),allocAt l s=some (i,n)→s≤i∧∃c,l[i - s]?=some c∧c.times=n
 |[],_,_,_,h=>by simp[allocAt]at h
 |x :: l,s,i,n,h=>by
  simp only[allocAt]at h
  split at h
  ·obtain ⟨h0,c,hc,ht⟩:=allocAt_here l (s+1) i n h;refine ⟨by omega,c,?_,ht⟩;rw[show i - s=(i - (s+1))+1 by omega];exact hc
  ·cases h;exact ⟨Nat.le_refl _,x,by simp,rfl⟩
theorem wordOf_w(c g:Int):isWord (wordOf c g)=true:=by
 unfold wordOf
 split
 ·rename_i h;exact h.2.2.2.2
 ·rfl
theorem OkA.cell(h:OkA N m){i:Nat}{c c':Cell}(hc:m.cells[i]?=some c)(hw:c'.words.length=4∧∀v∈c'.words,isWord v=true)(ht:0≤c'.times∧c'.times≤N')(hN:N≤N'):OkA N' {m with cells:=m.cells.set i c'}:=by
 have om:=h.1.mono hN;refine h.mem (waits:=m.waits) ⟨by simpa using om.cells1,by simpa using om.cells,fun j x hx=>?_,fun j x hx=>?_,om.waits,om.wlen,fun t l hl x hx=>by simpa using om.wval t l hl x hx,om.N0⟩ rfl hN
 ·rcases get_set hx with rfl|hx
  ·exact hw
  ·exact om.words j x hx
 ·rcases get_set hx with rfl|hx
  ·exact ht
  ·exact om.times j x hx
theorem OkA.jump(h:OkA N m)(t:Nat)(to:List UInt8):OkA N (m.jump t to):=by
 unfold M.jump;refine h.setPc t _ fun k hk=>?_;rw[thr_of hk]
 cases hl:labelAt to k.code 0 with
 |none=>exact Nat.zero_le _
 |some i=>have:=labelAt_lt to k.code 0 i hl;simp only[Option.getD_some];omega
theorem OkA.exec(h:OkA N m)(t:Nat)(ht:m.T.length≤6){x:Instr}(hx:insOk x):OkA (N+48) (m.exec t x):=by
 have hr:=h.regW t;have h48:∀ {k:Int} {m':M},OkA k m'→k≤N+48→OkA (N+48) m':=fun a b=>a.mono b;obtain ⟨op,A,B,C,to⟩:=x;unfold M.exec
 rcases op_cases op with rfl|rfl|rfl|rfl|rfl|rfl|rfl|rfl|rfl|rfl|rfl|rfl|rfl|rfl|rfl|rfl|rfl|rfl|rfl|rfl|h20
 ·exact h48 (h.setReg t A hx.2) (by omega)
 ·exact h48 (h.setReg t A (hr _)) (by omega)
 ·exact h48 (h.setReg t A (sum_word 2 (hr _) (hr _))) (by omega)
 ·exact h48 (h.setReg t A (sum_word 3 (hr _) (hr _))) (by omega)
 ·exact h48 (h.setReg t A (sum_word 4 (hr _) (hr _))) (by omega)
 ·exact h48 (h.setReg t A (sum_word 5 (hr _) (hr _))) (by omega)
 ·simp only
  split
  ·exact h48 (h.setReg t A (look_word h.1 ..)) (by omega)
  ·exact h48 (h.fault.setReg t A rfl) (by omega)
 ·simp only
  split
  ·rename_i c g hn
   have hC:0≤C∧C<4:=hx.2.2
   have hput:∀ {m1:M} {N1:Int},OkA N1 m1→N≤N1→m1.cells.length=m.cells.length→(∀l,m1.waits[t]?=some l→l.length<8)→N1≤N+48→
     OkA (N+48) {m1 with waits:=m1.waits.modify t fun l=>l++[⟨c,g,C,(m.thr t).reg B⟩]}:=fun {m1 N1} h1 hN hc h8 hN1=>by
    cases hl:m1.waits[t]? with
    |none=>
     have e:(m1.waits.modify t fun l=>l++[⟨c,g,C,(m.thr t).reg B⟩])=m1.waits:=by
      apply List.ext_getElem?;intro i;rw[List.getElem?_modify]
      by_cases ei:t=i
      ·subst ei;rw[hl];rfl
      ·cases m1.waits[i]? <;> simp[ei]
     rw[e];exact h48 h1 hN1
    |some l=>
     rw[modify_get _ hl];have hw:=names_ok_wt (h.1.mono hN) hn hC (hr B);rw[←hc]at hw;exact h48 (h1.mem (cells:=m1.cells) (h1.1.put hl (h8 l hl) (x:=⟨c,g,C,(m.thr t).reg B⟩) hw) (by simp) (Int.le_refl _)) hN1
   split
   ·rename_i h8
    refine hput (h.drain t) (by omega) ?_ ?_ (by omega)
    ·unfold M.drain;split
     ·rfl
     ·exact drain1_length _ _
    ·intro l hl;unfold M.drain at hl
     split at hl
     ·rename_i hq;rw[hq]at h8;simp at h8
     ·rename_i y r hq
      simp only[List.getElem?_set,if_true]at hl
      split at hl
      ·cases hl
       have hwt:m.waits[t]?=some (y :: l):=by
        unfold M.waitsOf List.getD at hq
        cases h':m.waits[t]? with
        |none=>rw[h']at hq;cases hq
        |some z=>rw[h']at hq;exact congrArg some hq
       have:=h.1.wlen t _ hwt;simp only[List.length_cons]at this;omega
      ·cases hl
   ·rename_i h8
    refine hput h (by omega) rfl (fun l hl=>?_) (by omega)
    have:m.waitsOf t=l:=by simp[M.waitsOf,List.getD,hl]
    rw[this]at h8;omega
  ·exact h48 h.fault (by omega)
 ·simp only
  split
  ·exact h48 (((h.fence t).setW _ _ (hr A)).setReg t A (getWord_word (h.fence t).1 ..)) (by omega)
  ·exact h48 (h.fault.setReg t A rfl) (by omega)
 ·simp only
  split
  ·split
   ·exact h48 (((h.fence t).setW _ _ (hr _)).setReg t B (getWord_word (h.fence t).1 ..)) (by omega)
   ·exact h48 ((h.fence t).setReg t B (getWord_word (h.fence t).1 ..)) (by omega)
  ·exact h48 (h.fault.setReg t B rfl) (by omega)
 ·simp only
  split
  ·rename_i i n ha
   obtain ⟨-,c,hc,rfl⟩:=allocAt_here _ _ _ _ ha;have htm:=h.1.times _ _ hc;exact h48 ((h.cell (c':=⟨[0,0,0,0],c.times+1,true⟩) (N':=N+1) hc ⟨rfl,fun v hv=>by simp at hv;subst hv;rfl⟩ ⟨by simp only;omega,by simp only;omega⟩ (by omega)).setReg t A (wordOf_w _ _)) (by omega)
  ·exact h48 (h.setReg t A rfl) (by omega)
 ·simp only
  split
  ·rename_i c g hn
   have hf:=h.fence t
   cases hc:(m.fence t).cells[c.toNat]? with
   |none=>
    have e:((m.fence t).cells.modify c.toNat fun y=>{y with here:=false})=(m.fence t).cells:=by
     apply List.ext_getElem?;intro i;rw[List.getElem?_modify]
     by_cases ei:c.toNat=i
     ·subst ei;rw[hc];rfl
     ·cases (m.fence t).cells[i]? <;> simp[ei]
    rw[e];exact h48 hf (by omega)
   |some y=>
    rw[modify_get _ hc];exact h48 (hf.cell (N':=N+8) (c':={y with here:=false}) hc (hf.1.words _ y hc) (hf.1.times _ y hc) (by omega)) (by omega)
  ·exact h48 h.fault (by omega)
 ·exact h48 (h.fence t) (by omega)
 ·exact h48 (h.force m.T.length) (by omega)
 ·simp only
  split
  ·exact h48 (h.jump t to) (by omega)
  ·exact h48 h (by omega)
 ·simp only
  split
  ·exact h48 (h.jump t to) (by omega)
  ·exact h48 h (by omega)
 ·exact h48 (h.jump t to) (by omega)
 ·exact h48 h (by omega)
 ·simp only
  split
  ·rename_i hm
   refine h48 (k:=N) ⟨⟨h.1.cells1,h.1.cells,h.1.words,h.1.times,h.1.waits,h.1.wlen,h.1.wval,h.1.N0⟩,⟨h.2.len,h.2.t1,h.2.regs,h.2.code,by simp only[List.length_append,List.length_cons,List.length_nil];omega,h.2.f0⟩⟩ (by omega)
  ·exact h48 h (by omega)
 ·simp only
  split
  ·exact h48 h.fault (by omega)
  ·exact h48 h (by omega)
 ·obtain rfl:op=20:=by have:=insOk_le hx;simp only at this;omega
  exact h48 h (by omega)
theorem OkA.step(h:OkA N m)(t:Nat):OkA (N+48) (m.step t).1:=by
 have ht:m.T.length≤6:=by have:=h.1.waits;have:=h.2.len;omega
 cases hh:m.T[t]? with
 |none=>
  have:m.step t=(m,9):=by unfold M.step;simp[M.thr,List.getD,hh]
  rw[this];exact h.mono (by omega)
 |some k=>
  cases hx:k.code[k.pc]? with
  |none=>rw[Qh.step_end hh hx];exact h.mono (by omega)
  |some x=>
   by_cases h20:x.op=20
   ·rw[Qh.step_stop hh hx h20];exact h.mono (by omega)
   ·rw[Qh.step_eq hh hx h20];have hlt:=(List.getElem?_eq_some_iff.1 hx).1;exact (h.setPc t (k.pc+1) (fun z hz=>by rw[hh]at hz;cases hz;omega)).exec t (by simpa[M.setPc]using ht) ((h.2.code t k hh).2.ins x (List.mem_of_getElem? hx))
theorem OkA.turn(h:OkA N m)(n:Int):OkA (N+48) (m.turn n).1:=by
 unfold M.turn;simp only
 split
 ·exact h.step _
 ·exact (h.drain _).mono (by omega)
theorem setReg_cs(m:M)(t:Nat)(a v:Int):(m.setReg t a v).T.map (·.code)=m.T.map (·.code):=by
 unfold M.setReg;simp only;apply List.ext_getElem?;intro i;simp only[List.getElem?_map,List.getElem?_modify]
 cases m.T[i]? with
 |none=>simp
 |some x=>by_cases e:t=i <;> simp[e]
theorem setPc_cs(m:M)(t p:Nat):(m.setPc t p).T.map (·.code)=m.T.map (·.code):=by
 unfold M.setPc;simp only;apply List.ext_getElem?;intro i;simp only[List.getElem?_map,List.getElem?_modify]
 cases m.T[i]? with
 |none=>simp
 |some x=>by_cases e:t=i <;> simp[e]
theorem drain_T1(m:M)(t:Nat):(m.drain t).1.T=m.T:=by unfold M.drain;split <;> rfl
theorem exec_cs(m:M)(t:Nat)(x:Instr):(m.exec t x).T.map (·.code)=m.T.map (·.code):=by
 have hd:=drain_T1 m t;unfold M.exec;simp only
 split <;> (repeat' split) <;> first
  |rfl
  |exact setReg_cs _ _ _ _
  |exact setPc_cs _ _ _
  |(rw[force_T])
  |(show (m.drain t).1.T.map _=_;rw[hd])
theorem step_cs(m:M)(t:Nat):(m.step t).1.T.map (·.code)=m.T.map (·.code):=by
 unfold M.step
 split
 ·rfl
 ·split
  ·rfl
  ·show ((m.setPc t _).exec t _).T.map _=_;rw[exec_cs,setPc_cs]
theorem turn_cs(m:M)(n:Int):(m.turn n).1.T.map (·.code)=m.T.map (·.code):=by
 unfold M.turn;simp only
 split
 ·exact step_cs _ _
 ·rw[drain_T1]
theorem cs_thr{m m':M}(h:m'.T.map (·.code)=m.T.map (·.code)){t:Nat}{k:Thr}(hk:m'.T[t]?=some k):∃k0,m.T[t]?=some k0∧k.code=k0.code:=by
 have h1:(m'.T.map (·.code))[t]?=some k.code:=by rw[List.getElem?_map,hk];rfl
 rw[h,List.getElem?_map]at h1;obtain ⟨k0,h0,e⟩:=Option.map_eq_some_iff.1 h1;exact ⟨k0,h0,e.symm⟩
theorem cs_len{m m':M}(h:m'.T.map (·.code)=m.T.map (·.code)):m'.T.length=m.T.length:=by
 have:=congrArg List.length h
 simpa using this
end
section
open Go.RowKit Qs Qh
variable {w W w1 w2 w':World}{X:XB}{vs vs':List Value}{mv mv':Value}{m m':M}{N:Int}{B':PB}{gL k:Nat}
structure CpParts(w W:World)(X:XB)(m:M)(B':PB)(vs':List Value)(gL:Nat)(mv':Value):Prop where
 mod:Mod noF w W
 mem:PMV W B' m.cells m.waits vs'
 thr:∃junk,W.heap[gL]?=some (.cells (flat (tVals X) 0 m.T++junk).toArray 99 (0,0))
 marks:W.ownsRow 0 78 2 mv' m.marks.length (flat markVals 0 m.marks)
 lo:(∀x,PFoot B' vs' x→w.heap.size≤x)∧w.heap.size≤gL∧∀g,mv'.ownBlock=some g→w.heap.size≤g
theorem PMV.blk{l:List Cell}{ws:List (List Wt)}{B:PB}(h:PMV w B l ws vs){x:Nat}(hx:PFoot B vs x) :
  ∃c T,w.heap[x]?=some (.cells c T (0,0))∧T∈[107,196,220,180,182]:=by
 rcases hx with rfl|rfl|rfl|rfl|⟨u,hu,hb⟩
 ·obtain ⟨k,e⟩:=h.top;exact ⟨_,_,e,by simp⟩
 ·obtain ⟨k,e⟩:=h.arena.top;exact ⟨_,_,e,by simp⟩
 ·obtain ⟨k,e⟩:=h.arena.cells;exact ⟨_,_,e,by simp⟩
 ·obtain ⟨k,e⟩:=h.rows;exact ⟨_,_,e,by simp⟩
 ·obtain ⟨t,ht⟩:=List.mem_iff_getElem?.1 hu
  have:t<ws.length:=by rw[←h.len];exact (List.getElem?_eq_some_iff.1 ht).1
  obtain ⟨c,hc⟩:=off_blk (h.row t u _ ht (List.getElem?_eq_getElem this)) hb;exact ⟨_,_,hc,by simp⟩
theorem CpParts.made(h:PMach w X vs mv m)(C:CpParts w W X m B' vs' gL mv')(k:Nat) :
  PMach (W.alloc (.cells #[.pointer (some ⟨B'.bM,0,none⟩),.slice (some ⟨gL,0,none⟩) m.T.length k,mv',.int .i64 m.faults] 87)) ⟨W.heap.size,gL,k,B',X.cv,X.mb⟩ vs' mv' m∧
  Mod noF w (W.alloc (.cells #[.pointer (some ⟨B'.bM,0,none⟩),.slice (some ⟨gL,0,none⟩) m.T.length k,mv',.int .i64 m.faults] 87))∧
  ∀x,XFoot ⟨W.heap.size,gL,k,B',X.cv,X.mb⟩ vs' mv' x→w.heap.size≤x:=by
 have hA:Mod noF W (W.alloc (.cells #[.pointer (some ⟨B'.bM,0,none⟩),.slice (some ⟨gL,0,none⟩) m.T.length k,mv',.int .i64 m.faults] 87)):=(Mod.refl noF W).alloc _;have hAA:=C.mod.trans0 hA;obtain ⟨j,hj⟩:=C.thr;have hlt:∀x,PFoot B' vs' x→x<W.heap.size:=fun x hx=>C.mem.lt hx
 have hgl:=lt_of_block hj
 have hft:∀x,XFoot ⟨W.heap.size,gL,k,B',X.cv,X.mb⟩ vs' mv' x→w.heap.size≤x:=fun x hx=>by
  rcases hx with rfl|rfl|hx|hx
  ·exact C.mod.size
  ·exact C.lo.2.1
  ·exact C.lo.1 x hx
  ·exact C.lo.2.2 x hx
 have hPF:∀ {x:Nat} {c:Array Value} {T:TypeId},W.heap[x]?=some (.cells c T (0,0))→T ∉ [107,196,220,180,182]→¬PFoot B' vs' x:=fun {x c T} hx hT hf=>by
  obtain ⟨d,U,hd,hU⟩:=C.mem.blk hf;exact ne_types hx hd (fun e=>hT (e ▸ hU)) rfl
 refine ⟨⟨heap_alloc_new W _,⟨j,hA.heap hj (fun e=>e)⟩,C.mem.keep0 hA,fun t k hk=>?_,fun t k hk=>?_,(own_off C.marks).keep hA (fun _ _ e=>e),⟨by show W.heap.size≠gL;omega,fun e=>absurd (hlt W.heap.size e) (Nat.lt_irrefl _),hPF hj (by decide)⟩,fun g hg=>?_⟩,hAA,hft⟩
 ·obtain ⟨a,b⟩:=h.code t k hk;exact ⟨a.frame hAA (fun g hg e=>e),fun g hg=>⟨fun e=>by have:=hft g e;have:=(b g hg).2;omega,Nat.lt_of_lt_of_le (b g hg).2 hAA.size⟩⟩
 ·obtain ⟨a,b⟩:=h.maps t k hk;exact ⟨a.keep hAA (fun e=>e),fun e=>by have h1:=hft _ e;have h2:=a.lt;have h3:w.heap.size≤X.mb t:=h1;omega⟩
 ·obtain ⟨c,hc⟩:=row_blk C.marks hg;have:=lt_of_block hc;exact ⟨by show g≠W.heap.size;omega,ne_types hc hj (by decide),hPF hc (by decide)⟩
end
section
open Go.RowKit Qs Qh
variable {w W w1 w2 w':World}{X:XB}{vs vs':List Value}{mv mv':Value}{m m':M}{N:Int}
theorem thr_one:∀(l:List Thr) (s:Nat),(∀(i:Nat) k,l[i]?=some k→(X.cv (s+i)).oneCell'=true)→∀u∈flat (tVals X) s l,u.oneCell'=true
 |[],s,_,u,hu=>by simp[flat]at hu
 |x :: l,s,hc,u,hu=>by
  simp only[flat,List.mem_append]at hu
  rcases hu with h|h
  ·have h0:=hc 0 x rfl;rw[Nat.add_zero]at h0;simp[tVals,iv]at h
   rcases h with rfl|rfl|rfl|rfl|rfl|rfl|rfl|rfl|rfl|rfl|rfl <;> first|exact h0|rfl
  ·exact thr_one l (s+1) (fun i k hi=>by have:=hc (i+1) k (by simpa using hi);rwa [show s+1+i=s+(i+1)from by omega]) u h
theorem clone_thr(h:PMach w X vs mv m)(h1:1≤m.T.length)(h6:m.T.length≤6) :
  Calls Tryz.prog 130 #[.slice (some ⟨X.bL,0,none⟩) m.T.length X.cap] w fun e w'=>∃gL k,e=.returned (.slice (some ⟨gL,0,none⟩) m.T.length k)∧
   (∃junk,w'.heap[gL]?=some (.cells (flat (tVals X) 0 m.T++junk).toArray 99 (0,0)))∧w.heap.size≤gL∧Mod noF w w':=by
 obtain ⟨junk,hj⟩:=h.thr;have hlen:(flat (tVals X) 0 m.T).length=m.T.length*11:=flat_length (tVals X) 11 (tVals_len X) m.T 0;refine (cthr_any X.bL 0 X.cap m.T.length (flat (tVals X) 0 m.T) hlen (fun j u hu=>?_) (thr_one m.T 0 fun i k hk=>?_) (by omega)).mono ?_
 ·rw[add_at,cell_of_heap hj,Nat.zero_add]
  have:(flat (tVals X) 0 m.T++junk)[j]?=some u:=by rw[List.getElem?_append_left (List.getElem?_eq_some_iff.1 hu).1];exact hu
  simpa using this
 ·rw[Nat.zero_add];obtain ⟨a,c,e,-⟩:=(h.code i k hk).1.at_;rw[e];rfl
 ·rintro e w' ⟨v',rfl,hown,hm,hf⟩
  rcases hown.2 with ⟨-,e0⟩|⟨g',cap,cur,rfl,_,hg',x1,x2,x3,x4⟩
  ·omega
  ·refine ⟨g',cap,rfl,⟨cur.toList.drop (m.T.length*11),?_⟩,hf g' rfl,hm⟩
   have e:(flat (tVals X) 0 m.T++cur.toList.drop (m.T.length*11)).toArray=cur:=by rw[←x4,List.take_append_drop]
   rw[e];exact hg'
theorem pcopy_any(H:PX w X vs mv m N):Calls Tryz.prog 110 #[.pointer (some ⟨X.bX,0,none⟩)] w fun e w'=>∃X' vs' mv',e=.returned (.pointer (some ⟨X'.bX,0,none⟩))∧PX w' X' vs' mv' m N∧X'.cv=X.cv∧X'.mb=X.mb∧Mod noF w w'∧∀x,XFoot X' vs' mv' x→w.heap.size≤x:=by
 obtain ⟨p0,p1,p2,p3,p4,p5⟩:=H.p.top_at;have ht6:=H.t6;have ht1:=H.ot.t1;have htl:=H.ot.len
 have hc1:∀W,Mod noF w W→Calls Tryz.prog 129 #[.pointer (some ⟨X.P.bM,0,none⟩)] W fun e w'=>∃B' vs',e=.returned (.pointer (some ⟨B'.bM,0,none⟩))∧PMV w' B' m.cells m.waits vs'∧(∀x,PFoot B' vs' x→w.heap.size≤x)∧Mod noF w w':=fun W hW=>
  (mcopy_any (H.p.mem.keep0 hW) H.om.cells1 H.om.cells (by omega) (by omega) H.om.wlen).mono fun e w' ⟨B',vs',e1,e2,e3,e4⟩=>⟨B',vs',e1,e2,fun x hx=>Nat.le_trans hW.size (e4 x hx),hW.trans0 e3⟩
 have hc2:∀W,Mod noF w W→Calls Tryz.prog 130 #[.slice (some ⟨X.bL,0,none⟩) m.T.length X.cap] W fun e w'=>∃gL k,e=.returned (.slice (some ⟨gL,0,none⟩) m.T.length k)∧
   (∃junk,w'.heap[gL]?=some (.cells (flat (tVals X) 0 m.T++junk).toArray 99 (0,0)))∧w.heap.size≤gL∧Mod noF W w'∧Mod noF w w':=fun W hW=>
  (clone_thr (H.p.keep0 hW) ht1 ht6).mono fun e w' ⟨gL,k,e1,e2,e3,e4⟩=>⟨gL,k,e1,e2,Nat.le_trans hW.size e3,e4,hW.trans0 e4⟩
 obtain ⟨sa,sc,esv,-,-⟩:=H.p.marks.slice
 have hc3:∀W,Mod noF w W→Calls Tryz.prog 73 #[.slice sa m.marks.length sc] W fun e w'=>∃va vc,e=.returned (.slice va m.marks.length vc)∧
   w'.ownsRow 0 78 2 (.slice va m.marks.length vc) m.marks.length (flat markVals 0 m.marks)∧(∀g,(Value.slice va m.marks.length vc).ownBlock=some g→w.heap.size≤g)∧Mod noF W w'∧Mod noF w w':=fun W hW=>by
  have h:=clone_marks (H.p.keep0 hW).marks H.ot.marks;rw[esv]at h;refine h.mono ?_;rintro e w' ⟨v',rfl,e1,e2,e3⟩;obtain ⟨va,vc,rfl,-,-⟩:=(own_off e1).slice;exact ⟨va,vc,rfl,e1,fun g hg=>Nat.le_trans hW.size (e3 g hg),e2,hW.trans0 e2⟩
 rw[esv]at p2
 have hS:∀W,Mod noF w W→(Mod noF w W∧W.cell? ⟨X.bX,0,none⟩=some (.pointer (some ⟨X.P.bM,0,none⟩))∧W.cell? ⟨X.bX,1,none⟩=some (.slice (some ⟨X.bL,0,none⟩) m.T.length X.cap)∧W.cell? ⟨X.bX,2,none⟩=some (.slice sa m.marks.length sc)∧W.cell? ⟨X.bX,3,none⟩=some (.int .i64 m.faults)):=fun W hW=>⟨hW,hW.cell p0 (fun e=>e),hW.cell p1 (fun e=>e),hW.cell p2 (fun e=>e),hW.cell p3 (fun e=>e)⟩
 have hst:=hS w (Mod.refl _ _);have HH:=Lib.hid H;have HS:=Lib.hid hS;have H1:=Lib.hid hc1;have H2:=Lib.hid hc2;have H3:=Lib.hid hc3;clear H hc1 hc2 hc3 hS p4 esv
 go_enter Tryz.func110,Tryz.ntmps110
 go_wp2
 go_region_held3 (fun W=>(Mod noF w W∧W.cell? ⟨X.bX,0,none⟩=some (.pointer (some ⟨X.P.bM,0,none⟩))∧W.cell? ⟨X.bX,1,none⟩=some (.slice (some ⟨X.bL,0,none⟩) m.T.length X.cap)∧W.cell? ⟨X.bX,2,none⟩=some (.slice sa m.marks.length sc)∧W.cell? ⟨X.bX,3,none⟩=some (.int .i64 m.faults))) ((refine HS.out _ ?_;first|assumption|exact Mod.refl _ _|exact (Mod.refl _ _).drew|exact Mod.alloc (by assumption) _)) (first|(go_at_call 129;go_split_ands;refine (H1.out _ ?_).mono ?_;assumption;rintro e wa ⟨B',vs',rfl,hA1,hA2,hA3⟩)|(go_at_call 130;go_split_ands;refine (H2.out _ ?_).mono ?_;assumption;rintro e wb ⟨gL,kL,rfl,hB1,hB2,hB3,hB4⟩)|(go_at_call 73;go_split_ands;refine (H3.out _ ?_).mono ?_;assumption;rintro e wc ⟨va,vc,rfl,hC1,hC2,hC3,hC4⟩))
 all_goals
  have hP:CpParts w wc X m B' vs' gL (.slice va m.marks.length vc):=⟨hC4,hA1.keep0 (hB3.trans0 hC3),hB1.elim fun j e=>⟨j,hC3.heap e (fun e=>e)⟩,hC1,hA2,hB2,hC2⟩;have hM:=hP.made HH.out.p kL;have HM:=Lib.hid hM;clear hP hM hA1 hA2 hA3 hB1 hB2 hB3 hB4 hC1 hC2 hC3 hC4;go_wp2;go_ret
  exact ⟨_,vs',_,rfl,⟨HM.out.1,HH.out.om,HH.out.ot⟩,rfl,rfl,HM.out.2.1,HM.out.2.2⟩
end
section
open Go.RowKit Qs Qh
variable {w w1 w2 w' b0:World}{X:XB}{vs vs':List Value}{mv mv':Value}{m m':M}{N:Int}{a:Nat→Addr}
theorem ptouch_alloc_none(H:PX w X vs mv m N)(hN:N≤1000000000)(L:XLow b0 w a X vs mv){t:Nat}(ht:t<m.T.length){h:Thr}(hh:m.T[t]?=some h)(h8:h.regs.length=8){ra:Nat}{B C:Int}{to:ByteArray}(ha:ra<8)(hal:allocAt m.cells 0=none) :
  Calls Tryz.prog 47 #[.pointer (some ⟨X.bX,0,none⟩),.int .i64 t,insV 10 ra B C to] w fun e w'=>e=.returned (.tuple #[])∧∃vs',XUp w X vs mv m w' (m.setReg t ra 0) vs' mv:=by
 have Hal:=Lib.hid (fun W (hW:Mod noF w W)=>pmAlloc_ok (H.keep0 hW).p.mem (L.keep hW).E.four (H.cells hN).len (H.cells hN).times (t:=t) (by rw[H.ot.len];exact ht));have Hst:=Lib.hid (fun W (hW:Mod noF w W)=>hal)
 have ia0:(0:Int)≤(ra:Int):=by omega
 have ia8:(ra:Int)<8:=by omega
 clear hal;obtain ⟨t0,t1,-,-,-,t5⟩:=H.p.top_at;have hl5:=(H.p.thr_at hh).2.2;have ht6:=H.t6;have HH:=Lib.hid H;have HL:=Lib.hid L;have Hh:=Lib.hid hh;clear H L hh;unfold insV;simp only[opStr]
 go_enter Tryz.func47,Tryz.ntmps47
 go_wp2_with fail
 refine (Hal.out _ (by repeat (first|exact Mod.refl _ _|refine Mod.drew ?_|refine Mod.drewN ?_ _|refine Mod.alloc ?_ _))).mono ?_;rintro e w7 hal7
 rcases hal7 with ⟨i,cc,h1,-⟩|⟨-,rfl,hU⟩
 ·have h2:=Hst.out w (Mod.refl _ _);rw[h1]at h2;cases h2
 have hbw:w.heap.size<w7.heap.size:=by have:=hU.mod.size;simp at this;omega
 have s1:=hU.mod.cell (show (w.alloc (.cells #[.string ⟨#[97,108,108,111,99]⟩,.int .i64 ra,.int .i64 B,.int .i64 C,.string to] 73)).cell? ⟨w.heap.size,1,none⟩=some (.int .i64 ra) by simp) (fun (e:PFoot X.P vs w.heap.size)=>by have:=HH.out.p.lt (.inr (.inr (.inl e)));omega)
 have hu:=(XUp.quiet HH.out.p (by repeat (first|exact Mod.refl _ _|refine Mod.drew ?_|refine Mod.drewN ?_ _|refine Mod.alloc ?_ _))).trans ((HH.out.keep0 (by repeat (first|exact Mod.refl _ _|refine Mod.drew ?_|refine Mod.drewN ?_ _|refine Mod.alloc ?_ _))).p.mem_up hU)
 have x5:=hu.rep.reg_at Hh.out ha;have x6:=hu.rep.reg_free Hh.out (t*11+2+ra);have x7:=(hu.rep.thr_at Hh.out).2.2;generalize hva:h.regs.getD ra 0=va at *;have HU:=Lib.hid hu;clear hu hU;unfold errV;go_wp2
 go_region
 go_wp2;refine bodyPost_end (v:=.tuple #[]) (by simp[results,Tryz.results47,go_sem]) rfl ⟨rfl,?_⟩;exact ⟨vs,(HU.out.trans (HU.out.rep.setRegQ Hh.out h8 ha 0)).then0 (by repeat (first|exact Mod.refl _ _|refine Mod.drew ?_|refine Mod.drewN ?_ _|refine Mod.alloc ?_ _))⟩
theorem ptouch_alloc_ok(H:PX w X vs mv m N)(hN:N≤1000000000)(L:XLow b0 w a X vs mv){t:Nat}(ht:t<m.T.length){h:Thr}(hh:m.T[t]?=some h)(h8:h.regs.length=8){ra:Nat}{B C:Int}{to:ByteArray}(ha:ra<8){i:Nat}{n:Int}(hal:allocAt m.cells 0=some (i,n)) :
  Calls Tryz.prog 47 #[.pointer (some ⟨X.bX,0,none⟩),.int .i64 t,insV 10 ra B C to] w fun e w'=>e=.returned (.tuple #[])∧∃vs',XUp w X vs mv m w' (givenM m t ra i n) vs' mv:=by
 have Hal:=Lib.hid (fun W (hW:Mod noF w W)=>pmAlloc_ok (H.keep0 hW).p.mem (L.keep hW).E.four (H.cells hN).len (H.cells hN).times (t:=t) (by rw[H.ot.len];exact ht));have Hst:=Lib.hid (fun W (hW:Mod noF w W)=>hal)
 have ia0:(0:Int)≤(ra:Int):=by omega
 have ia8:(ra:Int)<8:=by omega
 clear hal;obtain ⟨t0,t1,-,-,-,t5⟩:=H.p.top_at;have hl5:=(H.p.thr_at hh).2.2;have ht6:=H.t6;have HH:=Lib.hid H;have HL:=Lib.hid L;have Hh:=Lib.hid hh;clear H L hh;unfold insV;simp only[opStr]
 go_enter Tryz.func47,Tryz.ntmps47
 go_wp2_with fail
 refine (Hal.out _ (by repeat (first|exact Mod.refl _ _|refine Mod.drew ?_|refine Mod.drewN ?_ _|refine Mod.alloc ?_ _))).mono ?_;rintro e w7 hal7
 rcases hal7 with ⟨i',cc,h1,hi,rfl,hU⟩|⟨h1,-,-⟩
 rotate_left
 ·have h2:=Hst.out w (Mod.refl _ _);rw[h1]at h2;cases h2
 have h2:=Hst.out w (Mod.refl _ _);rw[h1]at h2;cases h2
 have hbw:w.heap.size<w7.heap.size:=by have:=hU.mod.size;simp at this;omega
 have s1:=hU.mod.cell (show (w.alloc (.cells #[.string ⟨#[97,108,108,111,99]⟩,.int .i64 ra,.int .i64 B,.int .i64 C,.string to] 73)).cell? ⟨w.heap.size,1,none⟩=some (.int .i64 ra) by simp) (fun (e:PFoot X.P vs w.heap.size)=>by have:=HH.out.p.lt (.inr (.inr (.inl e)));omega)
 have hu:=((XUp.quiet HH.out.p (by repeat (first|exact Mod.refl _ _|refine Mod.drew ?_|refine Mod.drewN ?_ _|refine Mod.alloc ?_ _))).trans ((HH.out.keep0 (by repeat (first|exact Mod.refl _ _|refine Mod.drew ?_|refine Mod.drewN ?_ _|refine Mod.alloc ?_ _))).p.mem_up hU)).then0 ((Mod.refl noF w7).alloc (.cells #[.int .i64 i,.int .i64 cc.times] 101))
 have q0:(w7.alloc (.cells #[.int .i64 i,.int .i64 cc.times] 101)).cell? ⟨w7.heap.size,0,none⟩=some (.int .i64 i):=by simp
 have q1:(w7.alloc (.cells #[.int .i64 i,.int .i64 cc.times] 101)).cell? ⟨w7.heap.size,1,none⟩=some (.int .i64 cc.times):=by simp
 have q2:=((Mod.refl noF w7).alloc (.cells #[.int .i64 i,.int .i64 cc.times] 101)).cell s1 (fun e=>e);have hLt:=HH.out.p.thr_at Hh.out
 have hbl:X.bL<w7.heap.size:=by omega
 have HU:=Lib.hid hu;clear hU s1;go_wp2;obtain ⟨w8,hw8⟩:∃w8,w8=w7.alloc (.cells #[.int .i64 i,.int .i64 cc.times] 101):=⟨_,rfl⟩;rw[←hw8];rw[←hw8]at hu q0 q1 q2;have HU:=Lib.hid hu;have x5:=hu.rep.reg_at Hh.out ha;have x6:=hu.rep.reg_free Hh.out (t*11+2+ra)
 have x7:=(hu.rep.thr_at Hh.out).2.2;clear hw8 hu;have hu9:=HU.out.trans ((HU.out.rep.setRegQ Hh.out h8 ha 0));have hM9:Mod (fun k=>k=X.bL) w8 (w8.setCell ⟨X.bL,t*11+2+ra,none⟩ (.int .i64 0)):=(Mod.refl (fun k=>k=X.bL) w8).setCell (fun _=>rfl) _
 have r0:=hM9.cell q0 (fun (e:w7.heap.size=X.bL)=>by omega);have r1:=hM9.cell q1 (fun (e:w7.heap.size=X.bL)=>by omega);have r2:=hM9.cell q2 (fun (e:w.heap.size=X.bL)=>by omega);generalize hva:h.regs.getD ra 0=va at *;have HU9:=Lib.hid hu9;clear hu9 hM9
 go_region
 go_wp2;obtain ⟨w9,hw9⟩:∃w9,w9=(w8.setCell ⟨X.bL,t*11+2+ra,none⟩ (.int .i64 0)):=⟨_,rfl⟩;rw[←hw9]at HU9 r0 r1 r2;rw[←hw9];clear hw9
 have hh9:((({m with cells:=m.cells.set i (givenCell cc)}:M).setReg t ra 0)).T[t]?=some {h with regs:=h.regs.set (ra:Int).toNat 0}:=setReg_T (m:={m with cells:=m.cells.set i (givenCell cc)}) Hh.out ra 0;have Hh9:=Lib.hid hh9;clear hh9
 have hS:∀W,Mod noF w9 W→W.cell? ⟨w.heap.size,1,none⟩=some (.int .i64 ra)∧W.cell? ⟨w7.heap.size,0,none⟩=some (.int .i64 i)∧W.cell? ⟨w7.heap.size,1,none⟩=some (.int .i64 cc.times):=fun W hW=>⟨hW.cell r2 (fun e=>e),hW.cell r0 (fun e=>e),hW.cell r1 (fun e=>e)⟩
 have hcall:∀W,Mod noF w9 W→Calls Tryz.prog 94 #[.agg #[.int .i64 i,.int .i64 cc.times]] W fun e w'=>(∃ev,e=.returned (.tuple #[.int .i64 (wordOf i cc.times),ev]))∧Mod noF w9 w'∧(w'.cell? ⟨w.heap.size,1,none⟩=some (.int .i64 ra)∧w'.cell? ⟨w7.heap.size,0,none⟩=some (.int .i64 i)∧w'.cell? ⟨w7.heap.size,1,none⟩=some (.int .i64 cc.times))∧(∃u,w'.cell? ⟨X.bL,t*11+2+ra,none⟩=some u)∧w'.frozen? ⟨X.bL,t*11+2+ra,none⟩=false:=fun W hW=>by
  have hup:=HU9.out.then0 hW;refine (arenaWord_any i cc.times W a (HL.out.up hup).E).mono ?_;rintro e w' ⟨rfl,hm⟩;have hM:=hW.trans0 hm;have hup2:=HU9.out.then0 hM;rw[wordV_fst]
  exact ⟨⟨_,rfl⟩,hM,⟨hM.cell r2 (fun e=>e),hM.cell r0 (fun e=>e),hM.cell r1 (fun e=>e)⟩,⟨_,hup2.rep.reg_at Hh9.out ha⟩,hup2.rep.reg_free Hh9.out _⟩
 have hset:∀(W:World) (v:Value),(W.cell? ⟨w.heap.size,1,none⟩=some (.int .i64 ra)∧W.cell? ⟨w7.heap.size,0,none⟩=some (.int .i64 i)∧W.cell? ⟨w7.heap.size,1,none⟩=some (.int .i64 cc.times))→((W.setCell ⟨X.bL,t*11+2+ra,none⟩ v).cell? ⟨w.heap.size,1,none⟩=some (.int .i64 ra)∧(W.setCell ⟨X.bL,t*11+2+ra,none⟩ v).cell? ⟨w7.heap.size,0,none⟩=some (.int .i64 i)∧(W.setCell ⟨X.bL,t*11+2+ra,none⟩ v).cell? ⟨w7.heap.size,1,none⟩=some (.int .i64 cc.times)):=fun W v hW=>by
  have hM:Mod (fun k=>k=X.bL) W (W.setCell ⟨X.bL,t*11+2+ra,none⟩ v):=(Mod.refl (fun k=>k=X.bL) W).setCell (fun _=>rfl) _;exact ⟨hM.cell hW.1 (fun (e:w.heap.size=X.bL)=>by omega),hM.cell hW.2.1 (fun (e:w7.heap.size=X.bL)=>by omega),hM.cell hW.2.2 (fun (e:w7.heap.size=X.bL)=>by omega)⟩
 have hst2:=hS _ (Mod.refl _ _);have HS:=Lib.hid hS;have Hcall:=Lib.hid hcall;have Hset:=Lib.hid hset;clear hS hcall hset
 try go_wp2
 go_region_held3 (fun W=>W.cell? ⟨w.heap.size,1,none⟩=some (.int .i64 ra)∧W.cell? ⟨w7.heap.size,0,none⟩=some (.int .i64 i)∧W.cell? ⟨w7.heap.size,1,none⟩=some (.int .i64 cc.times)) ((first|assumption|exact Hset.out _ _ (by assumption)|(refine HS.out _ ?_;first|assumption|exact Mod.refl _ _|exact (Mod.refl _ _).drew))) (first|(go_at_call 94;refine (Hcall.out _ (by repeat (first|exact Mod.refl _ _|refine Mod.drew ?_|refine Mod.drewN ?_ _|refine Mod.alloc ?_ _))).mono ?_;rintro e w10 ⟨⟨ev,rfl⟩,hm10,k10,⟨u10,x10⟩,y10⟩))
 have HM10:=Lib.hid hm10;clear hm10;go_wp2;refine bodyPost_end (v:=.tuple #[]) (by simp[results,Tryz.results47,go_sem]) rfl ⟨rfl,?_⟩;refine ⟨vs,?_⟩
 have hfin:=(HU9.out.then0 HM10.out).trans ((HU9.out.then0 HM10.out).rep.setRegQ Hh9.out (by simpa using h8) ha (wordOf i cc.times));unfold givenM;rw[setReg_setReg]at hfin;exact hfin.then0 (by repeat (first|exact Mod.refl _ _|refine Mod.drew ?_|refine Mod.drewN ?_ _|refine Mod.alloc ?_ _))
end
section
open Go.RowKit Qs Qh
variable {w w1 w2 w' b0:World}{X:XB}{vs vs':List Value}{mv mv':Value}{m m':M}{N:Int}{a:Nat→Addr}
theorem pst_const(H:PX w X vs mv m N)(hN:N≤900000000)(L:XLow b0 w a X vs mv){t:Nat}(ht:t<m.T.length){h:Thr}(hh:m.T[t]?=some h){ra:Nat}{B C:Int}{to:List UInt8}(ha:ra<8)(hx:h.code[h.pc]?=some ⟨0,ra,B,C,to⟩) :
  Calls Tryz.prog 14 #[.pointer (some ⟨X.bX,0,none⟩),.int .i64 t] w fun e w'=>e=.returned .nilIface∧∃vs' mv',XUp w X vs mv m w' ((m.setPc t (h.pc+1)).setReg t ra B) vs' mv':=by
 have hthr:m.thr t=h:=by simp[M.thr,List.getD,hh]
 have hdone:m.done t=false:=by unfold M.done;rw[hthr,hx];rfl
 have hpd:=pdone_any H t ht;rw[hdone]at hpd;obtain ⟨t0,t1,-,-,-,t5⟩:=H.p.top_at;have ht6:=H.t6
 have d0:decide ((t:Int)<0)=false:=by simp
 have d1:decide ((m.T.length:Int)≤(t:Int))=false:=by simp;omega
 have d2:(t:Int)<(m.T.length:Int):=by omega
 have hh8:=(H.ot.regs t h hh).1;obtain ⟨hpc,hco⟩:=H.ot.code t h hh;have hlen:=hco.len;have hlt:h.pc<h.code.length:=(List.getElem?_eq_some_iff.1 hx).1
 have d3:(h.pc:Int)<(h.code.length:Int):=by omega
 have hwr:IntKind.i64.wrap ((h.pc:Int)+1)=(h.pc:Int)+1:=IntWalk.i64_in _ (by omega)
 have ira0:(0:Int)≤(ra:Int):=by omega
 have ira8:(ra:Int)<8:=by omega
 have HH:=Lib.hid H;have HL:=Lib.hid L;have Hh:=Lib.hid hh;have Hx:=Lib.hid hx;have Hpd:=Lib.hid hpd;have Hco:=Lib.hid hco;clear H L hh hx hpd hthr hdone hco
 go_enter Tryz.func14,Tryz.ntmps14
 go_wp2_with fail
 refine Hpd.out.mono ?_;rintro e w6 ⟨rfl,hm6⟩;have h6:=HH.out.keep0 hm6;obtain ⟨u0,u1,-,-,-,u5⟩:=h6.p.top_at;obtain ⟨r1,-,r3⟩:=h6.p.thr_at Hh.out;obtain ⟨cb,off,cc,e,hcb,hcell⟩:=pcode_cell h6.p Hh.out Hx.out;have r0:w6.cell? ⟨X.bL,t*11,none⟩=some (X.cv t):=r1 0 _ rfl;rw[e]at r0
 have r10:w6.cell? ⟨X.bL,t*11+10,none⟩=some (.int .i64 (h.pc:Nat)):=r1 10 _ rfl;have r10f:=h6.p.reg_free Hh.out (t*11+10);have c0:=hcell 0 _ rfl;have c1:=hcell 1 _ rfl;have c2:=hcell 2 _ rfl;have c3:=hcell 3 _ rfl;have c4:=hcell 4 _ rfl;have hcf:=(h6.p.code t h Hh.out).2 cb (by rw[e];rfl)
 have hcL:X.bL≠cb:=fun e=>hcf.1 (.inr (.inl e.symm));have hXl:X.bL<w6.heap.size:=r3;simp only[Nat.add_zero,opStr,iv,sv]at c0 c1 c2 c3 c4;generalize hd4:(⟨to.toArray⟩:ByteArray)=dto at *;have Hd4:=Lib.hid hd4;have H6:=Lib.hid h6;have Hm6:=Lib.hid hm6;have He:=Lib.hid e
 have hst:w6.cell? ⟨X.bL,t*11,none⟩=some (.slice (some ⟨cb,off,none⟩) h.code.length cc)∧w6.cell? ⟨X.bL,t*11+10,none⟩=some (.int .i64 (h.pc:Nat))∧w6.cell? ⟨cb,off+h.pc*5,none⟩=some (.string ⟨#[99,111,110,115,116]⟩)∧w6.cell? ⟨cb,off+h.pc*5+1,none⟩=some (.int .i64 ra)∧w6.cell? ⟨cb,off+h.pc*5+2,none⟩=some (.int .i64 B)∧w6.cell? ⟨cb,off+h.pc*5+3,none⟩=some (.int .i64 C)∧w6.cell? ⟨cb,off+h.pc*5+4,none⟩=some (.string dto):=⟨r0,r10,c0,c1,c2,c3,c4⟩
 have hS:∀W,Mod noF w6 W→W.cell? ⟨X.bL,t*11,none⟩=some (.slice (some ⟨cb,off,none⟩) h.code.length cc)∧W.cell? ⟨X.bL,t*11+10,none⟩=some (.int .i64 (h.pc:Nat))∧W.cell? ⟨cb,off+h.pc*5,none⟩=some (.string ⟨#[99,111,110,115,116]⟩)∧W.cell? ⟨cb,off+h.pc*5+1,none⟩=some (.int .i64 ra)∧W.cell? ⟨cb,off+h.pc*5+2,none⟩=some (.int .i64 B)∧W.cell? ⟨cb,off+h.pc*5+3,none⟩=some (.int .i64 C)∧W.cell? ⟨cb,off+h.pc*5+4,none⟩=some (.string dto):=fun W hW=>⟨hW.cell r0 (fun e=>e),hW.cell r10 (fun e=>e),hW.cell c0 (fun e=>e),hW.cell c1 (fun e=>e),hW.cell c2 (fun e=>e),hW.cell c3 (fun e=>e),hW.cell c4 (fun e=>e)⟩
 have HS:=Lib.hid hS;clear h6 hm6 e hcell r1 hd4 hcf t0 t1 t5 hS;go_wp2
 go_region_held3 (fun W=>W.cell? ⟨X.bL,t*11,none⟩=some (.slice (some ⟨cb,off,none⟩) h.code.length cc)∧W.cell? ⟨X.bL,t*11+10,none⟩=some (.int .i64 (h.pc:Nat))∧W.cell? ⟨cb,off+h.pc*5,none⟩=some (.string ⟨#[99,111,110,115,116]⟩)∧W.cell? ⟨cb,off+h.pc*5+1,none⟩=some (.int .i64 ra)∧W.cell? ⟨cb,off+h.pc*5+2,none⟩=some (.int .i64 B)∧W.cell? ⟨cb,off+h.pc*5+3,none⟩=some (.int .i64 C)∧W.cell? ⟨cb,off+h.pc*5+4,none⟩=some (.string dto)) ((first|assumption|(refine HS.out _ ?_;repeat (first|exact Mod.refl _ _|refine Mod.drew ?_|refine Mod.alloc ?_ _|refine mod_set1 ?_ (Nat.le_refl _) _ _)))) (first|fail)
 obtain ⟨wz,hwz⟩:∃wz,wz=w6.alloc (.cells #[.string ⟨#[99,111,110,115,116]⟩,.int .i64 ra,.int .i64 B,.int .i64 C,.string dto] 73):=⟨_,rfl⟩
 have hmz:Mod noF w6 wz:=by rw[hwz];exact (Mod.refl noF w6).alloc _
 have hbz:w6.heap.size<wz.heap.size:=by rw[hwz];simp
 have s0:wz.cell? ⟨w6.heap.size,0,none⟩=some (.string ⟨#[99,111,110,115,116]⟩):=by rw[hwz];simp
 have s1:wz.cell? ⟨w6.heap.size,1,none⟩=some (.int .i64 ra):=by rw[hwz];simp
 have s2:wz.cell? ⟨w6.heap.size,2,none⟩=some (.int .i64 B):=by rw[hwz];simp
 have s3:wz.cell? ⟨w6.heap.size,3,none⟩=some (.int .i64 C):=by rw[hwz];simp
 have s4:wz.cell? ⟨w6.heap.size,4,none⟩=some (.string dto):=by rw[hwz];simp
 rw[←hwz];have hz:=Hm6.out.trans0 hmz;have hzP:=HH.out.keep0 hz;have q10:=hmz.cell r10 (fun e=>e);have q10f:=hzP.p.reg_free Hh.out (t*11+10);have hMp:Mod (fun k=>k=X.bL) wz (wz.setCell ⟨X.bL,t*11+10,none⟩ (.int .i64 ((h.pc:Int)+1))):=(Mod.refl (fun k=>k=X.bL) wz).setCell (fun _=>rfl) _
 have nb:∀j:Nat,¬(⟨w6.heap.size,j,none⟩:Addr).block=X.bL:=fun j (e:w6.heap.size=X.bL)=>by omega
 have z0:=hMp.cell s0 (nb 0);have z1:=hMp.cell s1 (nb 1);have z2:=hMp.cell s2 (nb 2);have z3:=hMp.cell s3 (nb 3);have z4:=hMp.cell s4 (nb 4);have hup:=(XUp.quiet HH.out.p hz).trans (hzP.p.setPcQ Hh.out (h.pc+1));rw[show ((h.pc+1:Nat):Int)=(h.pc:Int)+1 from by omega]at hup
 have hT1:(m.setPc t (h.pc+1)).T[t]?=some {h with pc:=h.pc+1}:=setPc_T Hh.out _;have HT1:=Lib.hid hT1;obtain ⟨wp,hwp⟩:∃wp,wp=wz.setCell ⟨X.bL,t*11+10,none⟩ (.int .i64 ((h.pc:Int)+1)):=⟨_,rfl⟩;rw[←hwp]at hup;have y0:=z0;have y1:=z1;have y2:=z2;have y3:=z3;have y4:=z4;rw[←hwp]at y0 y1 y2 y3 y4
 have hbp:w6.heap.size<wp.heap.size:=by rw[hwp];simpa using hbz
 have HU:=Lib.hid hup;have Hwp:=Lib.hid hwp;clear hz hzP hMp nb hup hT1 hwz hmz hwp s0 s1 s2 s3 s4 HS r0 r10 c0 c1 c2 c3 c4 hst r10f;have x0:=HU.out.rep.reg_at HT1.out ha;have xf0:=HU.out.rep.reg_free HT1.out (t*11+2+ra);have xl:=(HU.out.rep.thr_at HT1.out).2.2
 obtain ⟨va,hva⟩:∃x,h.regs.getD ra 0=x:=⟨_,rfl⟩;rw[show ({h with pc:=h.pc+1}:Thr).regs.getD ra 0=h.regs.getD ra 0 from rfl,hva]at x0;go_wp2;rw[←Hwp.out]
 go_region
 go_wp2;go_ret;exact ⟨rfl,vs,mv,(HU.out.trans (HU.out.rep.setRegQ HT1.out hh8 ha B)).then0 (by repeat (first|exact Mod.refl _ _|refine Mod.drew ?_|refine Mod.drewN ?_ _|refine Mod.alloc ?_ _))⟩
theorem pst_move(H:PX w X vs mv m N)(hN:N≤900000000)(L:XLow b0 w a X vs mv){t:Nat}(ht:t<m.T.length){h:Thr}(hh:m.T[t]?=some h){ra rb:Nat}{C:Int}{to:List UInt8}(ha:ra<8)(hb:rb<8)(hx:h.code[h.pc]?=some ⟨1,ra,rb,C,to⟩) :
  Calls Tryz.prog 14 #[.pointer (some ⟨X.bX,0,none⟩),.int .i64 t] w fun e w'=>e=.returned .nilIface∧∃vs' mv',XUp w X vs mv m w' ((m.setPc t (h.pc+1)).setReg t ra (h.regs.getD rb 0)) vs' mv':=by
 have hthr:m.thr t=h:=by simp[M.thr,List.getD,hh]
 have hdone:m.done t=false:=by unfold M.done;rw[hthr,hx];rfl
 have hpd:=pdone_any H t ht;rw[hdone]at hpd;obtain ⟨t0,t1,-,-,-,t5⟩:=H.p.top_at;have ht6:=H.t6
 have d0:decide ((t:Int)<0)=false:=by simp
 have d1:decide ((m.T.length:Int)≤(t:Int))=false:=by simp;omega
 have d2:(t:Int)<(m.T.length:Int):=by omega
 have hh8:=(H.ot.regs t h hh).1;obtain ⟨hpc,hco⟩:=H.ot.code t h hh;have hlen:=hco.len;have hlt:h.pc<h.code.length:=(List.getElem?_eq_some_iff.1 hx).1
 have d3:(h.pc:Int)<(h.code.length:Int):=by omega
 have hwr:IntKind.i64.wrap ((h.pc:Int)+1)=(h.pc:Int)+1:=IntWalk.i64_in _ (by omega)
 have ira0:(0:Int)≤(ra:Int):=by omega
 have ira8:(ra:Int)<8:=by omega
 have irb0:(0:Int)≤(rb:Int):=by omega
 have irb8:(rb:Int)<8:=by omega
 have HH:=Lib.hid H;have HL:=Lib.hid L;have Hh:=Lib.hid hh;have Hx:=Lib.hid hx;have Hpd:=Lib.hid hpd;have Hco:=Lib.hid hco;clear H L hh hx hpd hthr hdone hco
 go_enter Tryz.func14,Tryz.ntmps14
 go_wp2_with fail
 refine Hpd.out.mono ?_;rintro e w6 ⟨rfl,hm6⟩;have h6:=HH.out.keep0 hm6;obtain ⟨u0,u1,-,-,-,u5⟩:=h6.p.top_at;obtain ⟨r1,-,r3⟩:=h6.p.thr_at Hh.out;obtain ⟨cb,off,cc,e,hcb,hcell⟩:=pcode_cell h6.p Hh.out Hx.out;have r0:w6.cell? ⟨X.bL,t*11,none⟩=some (X.cv t):=r1 0 _ rfl;rw[e]at r0
 have r10:w6.cell? ⟨X.bL,t*11+10,none⟩=some (.int .i64 (h.pc:Nat)):=r1 10 _ rfl;have r10f:=h6.p.reg_free Hh.out (t*11+10);have c0:=hcell 0 _ rfl;have c1:=hcell 1 _ rfl;have c2:=hcell 2 _ rfl;have c3:=hcell 3 _ rfl;have c4:=hcell 4 _ rfl;have hcf:=(h6.p.code t h Hh.out).2 cb (by rw[e];rfl)
 have hcL:X.bL≠cb:=fun e=>hcf.1 (.inr (.inl e.symm));have hXl:X.bL<w6.heap.size:=r3;simp only[Nat.add_zero,opStr,iv,sv]at c0 c1 c2 c3 c4;generalize hd4:(⟨to.toArray⟩:ByteArray)=dto at *;have Hd4:=Lib.hid hd4;have H6:=Lib.hid h6;have Hm6:=Lib.hid hm6;have He:=Lib.hid e
 have hst:w6.cell? ⟨X.bL,t*11,none⟩=some (.slice (some ⟨cb,off,none⟩) h.code.length cc)∧w6.cell? ⟨X.bL,t*11+10,none⟩=some (.int .i64 (h.pc:Nat))∧w6.cell? ⟨cb,off+h.pc*5,none⟩=some (.string ⟨#[109,111,118,101]⟩)∧w6.cell? ⟨cb,off+h.pc*5+1,none⟩=some (.int .i64 ra)∧w6.cell? ⟨cb,off+h.pc*5+2,none⟩=some (.int .i64 rb)∧w6.cell? ⟨cb,off+h.pc*5+3,none⟩=some (.int .i64 C)∧w6.cell? ⟨cb,off+h.pc*5+4,none⟩=some (.string dto):=⟨r0,r10,c0,c1,c2,c3,c4⟩
 have hS:∀W,Mod noF w6 W→W.cell? ⟨X.bL,t*11,none⟩=some (.slice (some ⟨cb,off,none⟩) h.code.length cc)∧W.cell? ⟨X.bL,t*11+10,none⟩=some (.int .i64 (h.pc:Nat))∧W.cell? ⟨cb,off+h.pc*5,none⟩=some (.string ⟨#[109,111,118,101]⟩)∧W.cell? ⟨cb,off+h.pc*5+1,none⟩=some (.int .i64 ra)∧W.cell? ⟨cb,off+h.pc*5+2,none⟩=some (.int .i64 rb)∧W.cell? ⟨cb,off+h.pc*5+3,none⟩=some (.int .i64 C)∧W.cell? ⟨cb,off+h.pc*5+4,none⟩=some (.string dto):=fun W hW=>⟨hW.cell r0 (fun e=>e),hW.cell r10 (fun e=>e),hW.cell c0 (fun e=>e),hW.cell c1 (fun e=>e),hW.cell c2 (fun e=>e),hW.cell c3 (fun e=>e),hW.cell c4 (fun e=>e)⟩
 have HS:=Lib.hid hS;clear h6 hm6 e hcell r1 hd4 hcf t0 t1 t5 hS;go_wp2
 go_region_held3 (fun W=>W.cell? ⟨X.bL,t*11,none⟩=some (.slice (some ⟨cb,off,none⟩) h.code.length cc)∧W.cell? ⟨X.bL,t*11+10,none⟩=some (.int .i64 (h.pc:Nat))∧W.cell? ⟨cb,off+h.pc*5,none⟩=some (.string ⟨#[109,111,118,101]⟩)∧W.cell? ⟨cb,off+h.pc*5+1,none⟩=some (.int .i64 ra)∧W.cell? ⟨cb,off+h.pc*5+2,none⟩=some (.int .i64 rb)∧W.cell? ⟨cb,off+h.pc*5+3,none⟩=some (.int .i64 C)∧W.cell? ⟨cb,off+h.pc*5+4,none⟩=some (.string dto)) ((first|assumption|(refine HS.out _ ?_;repeat (first|exact Mod.refl _ _|refine Mod.drew ?_|refine Mod.alloc ?_ _|refine mod_set1 ?_ (Nat.le_refl _) _ _)))) (first|fail)
 obtain ⟨wz,hwz⟩:∃wz,wz=w6.alloc (.cells #[.string ⟨#[109,111,118,101]⟩,.int .i64 ra,.int .i64 rb,.int .i64 C,.string dto] 73):=⟨_,rfl⟩
 have hmz:Mod noF w6 wz:=by rw[hwz];exact (Mod.refl noF w6).alloc _
 have hbz:w6.heap.size<wz.heap.size:=by rw[hwz];simp
 have s0:wz.cell? ⟨w6.heap.size,0,none⟩=some (.string ⟨#[109,111,118,101]⟩):=by rw[hwz];simp
 have s1:wz.cell? ⟨w6.heap.size,1,none⟩=some (.int .i64 ra):=by rw[hwz];simp
 have s2:wz.cell? ⟨w6.heap.size,2,none⟩=some (.int .i64 rb):=by rw[hwz];simp
 have s3:wz.cell? ⟨w6.heap.size,3,none⟩=some (.int .i64 C):=by rw[hwz];simp
 have s4:wz.cell? ⟨w6.heap.size,4,none⟩=some (.string dto):=by rw[hwz];simp
 rw[←hwz];have hz:=Hm6.out.trans0 hmz;have hzP:=HH.out.keep0 hz;have q10:=hmz.cell r10 (fun e=>e);have q10f:=hzP.p.reg_free Hh.out (t*11+10);have hMp:Mod (fun k=>k=X.bL) wz (wz.setCell ⟨X.bL,t*11+10,none⟩ (.int .i64 ((h.pc:Int)+1))):=(Mod.refl (fun k=>k=X.bL) wz).setCell (fun _=>rfl) _
 have nb:∀j:Nat,¬(⟨w6.heap.size,j,none⟩:Addr).block=X.bL:=fun j (e:w6.heap.size=X.bL)=>by omega
 have z0:=hMp.cell s0 (nb 0);have z1:=hMp.cell s1 (nb 1);have z2:=hMp.cell s2 (nb 2);have z3:=hMp.cell s3 (nb 3);have z4:=hMp.cell s4 (nb 4);have hup:=(XUp.quiet HH.out.p hz).trans (hzP.p.setPcQ Hh.out (h.pc+1));rw[show ((h.pc+1:Nat):Int)=(h.pc:Int)+1 from by omega]at hup
 have hT1:(m.setPc t (h.pc+1)).T[t]?=some {h with pc:=h.pc+1}:=setPc_T Hh.out _;have HT1:=Lib.hid hT1;obtain ⟨wp,hwp⟩:∃wp,wp=wz.setCell ⟨X.bL,t*11+10,none⟩ (.int .i64 ((h.pc:Int)+1)):=⟨_,rfl⟩;rw[←hwp]at hup;have y0:=z0;have y1:=z1;have y2:=z2;have y3:=z3;have y4:=z4;rw[←hwp]at y0 y1 y2 y3 y4
 have hbp:w6.heap.size<wp.heap.size:=by rw[hwp];simpa using hbz
 have HU:=Lib.hid hup;have Hwp:=Lib.hid hwp;clear hz hzP hMp nb hup hT1 hwz hmz hwp s0 s1 s2 s3 s4 HS r0 r10 c0 c1 c2 c3 c4 hst r10f;have x0:=HU.out.rep.reg_at HT1.out ha;have xf0:=HU.out.rep.reg_free HT1.out (t*11+2+ra);have x1:=HU.out.rep.reg_at HT1.out hb
 have xf1:=HU.out.rep.reg_free HT1.out (t*11+2+rb);have xl:=(HU.out.rep.thr_at HT1.out).2.2;obtain ⟨va,hva⟩:∃x,h.regs.getD ra 0=x:=⟨_,rfl⟩;rw[show ({h with pc:=h.pc+1}:Thr).regs.getD ra 0=h.regs.getD ra 0 from rfl,hva]at x0;obtain ⟨vb,hvb⟩:∃x,h.regs.getD rb 0=x:=⟨_,rfl⟩
 rw[show ({h with pc:=h.pc+1}:Thr).regs.getD rb 0=h.regs.getD rb 0 from rfl,hvb]at x1;go_wp2;rw[←Hwp.out]
 go_region
 go_wp2;go_ret;rw[hvb];exact ⟨rfl,vs,mv,(HU.out.trans (HU.out.rep.setRegQ HT1.out hh8 ha vb)).then0 (by repeat (first|exact Mod.refl _ _|refine Mod.drew ?_|refine Mod.drewN ?_ _|refine Mod.alloc ?_ _))⟩
end
section
open Go.RowKit Qs Qh
variable {w w1 w2 w' b0:World}{X:XB}{vs vs':List Value}{mv mv':Value}{m m':M}{N:Int}{a:Nat→Addr}
theorem pbv_word{n:Int}(h:isWord n=true):(BitVec.ofInt 64 n).toNat=n.toNat∧n.toNat<4294967296:=by
 obtain ⟨h0,h1⟩:=of_isWord h;rw[BitVec.toNat_ofInt];omega
theorem pbits_and{n k:Int}(hn:isWord n=true)(hk:isWord k=true):bits .and .i64 n k=((n.toNat &&& k.toNat:Nat):Int):=by
 obtain ⟨e1,l1⟩:=pbv_word hn;obtain ⟨e2,l2⟩:=pbv_word hk;have h3:n.toNat &&& k.toNat≤n.toNat:=Nat.and_le_left;show IntKind.i64.wrap (((BitVec.ofInt 64 n &&& BitVec.ofInt 64 k).toNat:Nat):Int)=_;rw[BitVec.toNat_and,e1,e2];exact IntWalk.i64_in _ (by omega)
theorem pbits_xor{n k:Int}(hn:isWord n=true)(hk:isWord k=true):bits .xor .i64 n k=((n.toNat ^^^ k.toNat:Nat):Int):=by
 obtain ⟨e1,l1⟩:=pbv_word hn;obtain ⟨e2,l2⟩:=pbv_word hk;have h3:n.toNat ^^^ k.toNat<2 ^ 32:=Nat.xor_lt_two_pow l1 l2;show IntKind.i64.wrap (((BitVec.ofInt 64 n ^^^ BitVec.ofInt 64 k).toNat:Nat):Int)=_;rw[BitVec.toNat_xor,e1,e2];exact IntWalk.i64_in _ (by omega)
theorem psum_add(x y:Int)(hx:isWord x=true)(hy:isWord y=true)(w:World):Calls Tryz.prog 46 #[.string ⟨#[97,100,100]⟩,.int .i64 x,.int .i64 y] w fun e w'=>e=.returned (.int .i64 (sum2 2 x y))∧w=w':=by
 obtain ⟨x0,x1⟩:=of_isWord hx;obtain ⟨y0,y1⟩:=of_isWord hy;have w1:IntKind.i64.wrap (x+y)=x+y:=IntWalk.i64_in _ (by omega)
 have e:sum2 2 x y=(x+y) % 4294967296:=by unfold sum2;simp only[W32];split <;> omega
 rw[e];clear e
 go_enter Tryz.func46,Tryz.ntmps46
 go_wp2;go_ret;exact ⟨rfl,rfl⟩
theorem psum_sub(x y:Int)(hx:isWord x=true)(hy:isWord y=true)(w:World):Calls Tryz.prog 46 #[.string ⟨#[115,117,98]⟩,.int .i64 x,.int .i64 y] w fun e w'=>e=.returned (.int .i64 (sum2 3 x y))∧w=w':=by
 obtain ⟨x0,x1⟩:=of_isWord hx;obtain ⟨y0,y1⟩:=of_isWord hy;have w1:IntKind.i64.wrap (x - y)=x - y:=IntWalk.i64_in _ (by omega);have w2:IntKind.i64.wrap (x - y+4294967296)=x - y+4294967296:=IntWalk.i64_in _ (by omega)
 have e:sum2 3 x y=(x - y+4294967296) % 4294967296:=by unfold sum2;simp only[W32];split <;> omega
 rw[e];clear e
 go_enter Tryz.func46,Tryz.ntmps46
 go_wp2;go_ret;exact ⟨rfl,rfl⟩
theorem psum_and(x y:Int)(hx:isWord x=true)(hy:isWord y=true)(w:World):Calls Tryz.prog 46 #[.string ⟨#[97,110,100]⟩,.int .i64 x,.int .i64 y] w fun e w'=>e=.returned (.int .i64 (sum2 4 x y))∧w=w':=by
 obtain ⟨x0,x1⟩:=of_isWord hx;obtain ⟨y0,y1⟩:=of_isWord hy;have w1:=pbits_and hx hy;have e:sum2 4 x y=((x.toNat &&& y.toNat:Nat):Int):=rfl;rw[e];clear e
 go_enter Tryz.func46,Tryz.ntmps46
 go_wp2;go_ret;exact ⟨rfl,rfl⟩
theorem psum_xor(x y:Int)(hx:isWord x=true)(hy:isWord y=true)(w:World):Calls Tryz.prog 46 #[.string ⟨#[120,111,114]⟩,.int .i64 x,.int .i64 y] w fun e w'=>e=.returned (.int .i64 (sum2 5 x y))∧w=w':=by
 obtain ⟨x0,x1⟩:=of_isWord hx;obtain ⟨y0,y1⟩:=of_isWord hy;have w1:=pbits_xor hx hy;have e:sum2 5 x y=((x.toNat ^^^ y.toNat:Nat):Int):=rfl;rw[e];clear e
 go_enter Tryz.func46,Tryz.ntmps46
 go_wp2;go_ret;exact ⟨rfl,rfl⟩
end
section
open Go.RowKit Qs Qh
variable {w w1 w2 w' b0:World}{X:XB}{vs vs':List Value}{mv mv':Value}{m m':M}{N:Int}{a:Nat→Addr}
theorem pst_need_no(H:PX w X vs mv m N)(hN:N≤900000000)(L:XLow b0 w a X vs mv){t:Nat}(ht:t<m.T.length){h:Thr}(hh:m.T[t]?=some h){ra:Nat}{B C:Int}{to:List UInt8}(ha:ra<8)(hz:¬h.regs.getD ra 0=0)(hx:h.code[h.pc]?=some ⟨19,ra,B,C,to⟩) :
  Calls Tryz.prog 14 #[.pointer (some ⟨X.bX,0,none⟩),.int .i64 t] w fun e w'=>e=.returned .nilIface∧∃vs' mv',XUp w X vs mv m w' (m.setPc t (h.pc+1)) vs' mv':=by
 have hthr:m.thr t=h:=by simp[M.thr,List.getD,hh]
 have hdone:m.done t=false:=by unfold M.done;rw[hthr,hx];rfl
 have hpd:=pdone_any H t ht;rw[hdone]at hpd;obtain ⟨t0,t1,-,-,-,t5⟩:=H.p.top_at;have ht6:=H.t6
 have d0:decide ((t:Int)<0)=false:=by simp
 have d1:decide ((m.T.length:Int)≤(t:Int))=false:=by simp;omega
 have d2:(t:Int)<(m.T.length:Int):=by omega
 have hh8:=(H.ot.regs t h hh).1;obtain ⟨hpc,hco⟩:=H.ot.code t h hh;have hlen:=hco.len;have hlt:h.pc<h.code.length:=(List.getElem?_eq_some_iff.1 hx).1
 have d3:(h.pc:Int)<(h.code.length:Int):=by omega
 have hwr:IntKind.i64.wrap ((h.pc:Int)+1)=(h.pc:Int)+1:=IntWalk.i64_in _ (by omega)
 have ira0:(0:Int)≤(ra:Int):=by omega
 have ira8:(ra:Int)<8:=by omega
 have HH:=Lib.hid H;have HL:=Lib.hid L;have Hh:=Lib.hid hh;have Hx:=Lib.hid hx;have Hpd:=Lib.hid hpd;have Hco:=Lib.hid hco;clear H L hh hx hpd hthr hdone hco
 go_enter Tryz.func14,Tryz.ntmps14
 go_wp2_with fail
 refine Hpd.out.mono ?_;rintro e w6 ⟨rfl,hm6⟩;have h6:=HH.out.keep0 hm6;obtain ⟨u0,u1,-,-,-,u5⟩:=h6.p.top_at;obtain ⟨r1,-,r3⟩:=h6.p.thr_at Hh.out;obtain ⟨cb,off,cc,e,hcb,hcell⟩:=pcode_cell h6.p Hh.out Hx.out;have r0:w6.cell? ⟨X.bL,t*11,none⟩=some (X.cv t):=r1 0 _ rfl;rw[e]at r0
 have r10:w6.cell? ⟨X.bL,t*11+10,none⟩=some (.int .i64 (h.pc:Nat)):=r1 10 _ rfl;have r10f:=h6.p.reg_free Hh.out (t*11+10);have c0:=hcell 0 _ rfl;have c1:=hcell 1 _ rfl;have c2:=hcell 2 _ rfl;have c3:=hcell 3 _ rfl;have c4:=hcell 4 _ rfl;have hcf:=(h6.p.code t h Hh.out).2 cb (by rw[e];rfl)
 have hcL:X.bL≠cb:=fun e=>hcf.1 (.inr (.inl e.symm));have hXl:X.bL<w6.heap.size:=r3;simp only[Nat.add_zero,opStr,iv,sv]at c0 c1 c2 c3 c4;generalize hd4:(⟨to.toArray⟩:ByteArray)=dto at *;have Hd4:=Lib.hid hd4;have H6:=Lib.hid h6;have Hm6:=Lib.hid hm6;have He:=Lib.hid e
 have hst:w6.cell? ⟨X.bL,t*11,none⟩=some (.slice (some ⟨cb,off,none⟩) h.code.length cc)∧w6.cell? ⟨X.bL,t*11+10,none⟩=some (.int .i64 (h.pc:Nat))∧w6.cell? ⟨cb,off+h.pc*5,none⟩=some (.string ⟨#[110,101,101,100]⟩)∧w6.cell? ⟨cb,off+h.pc*5+1,none⟩=some (.int .i64 ra)∧w6.cell? ⟨cb,off+h.pc*5+2,none⟩=some (.int .i64 B)∧w6.cell? ⟨cb,off+h.pc*5+3,none⟩=some (.int .i64 C)∧w6.cell? ⟨cb,off+h.pc*5+4,none⟩=some (.string dto):=⟨r0,r10,c0,c1,c2,c3,c4⟩
 have hS:∀W,Mod noF w6 W→W.cell? ⟨X.bL,t*11,none⟩=some (.slice (some ⟨cb,off,none⟩) h.code.length cc)∧W.cell? ⟨X.bL,t*11+10,none⟩=some (.int .i64 (h.pc:Nat))∧W.cell? ⟨cb,off+h.pc*5,none⟩=some (.string ⟨#[110,101,101,100]⟩)∧W.cell? ⟨cb,off+h.pc*5+1,none⟩=some (.int .i64 ra)∧W.cell? ⟨cb,off+h.pc*5+2,none⟩=some (.int .i64 B)∧W.cell? ⟨cb,off+h.pc*5+3,none⟩=some (.int .i64 C)∧W.cell? ⟨cb,off+h.pc*5+4,none⟩=some (.string dto):=fun W hW=>⟨hW.cell r0 (fun e=>e),hW.cell r10 (fun e=>e),hW.cell c0 (fun e=>e),hW.cell c1 (fun e=>e),hW.cell c2 (fun e=>e),hW.cell c3 (fun e=>e),hW.cell c4 (fun e=>e)⟩
 have HS:=Lib.hid hS;clear h6 hm6 e hcell r1 hd4 hcf t0 t1 t5 hS;go_wp2
 go_region_held3 (fun W=>W.cell? ⟨X.bL,t*11,none⟩=some (.slice (some ⟨cb,off,none⟩) h.code.length cc)∧W.cell? ⟨X.bL,t*11+10,none⟩=some (.int .i64 (h.pc:Nat))∧W.cell? ⟨cb,off+h.pc*5,none⟩=some (.string ⟨#[110,101,101,100]⟩)∧W.cell? ⟨cb,off+h.pc*5+1,none⟩=some (.int .i64 ra)∧W.cell? ⟨cb,off+h.pc*5+2,none⟩=some (.int .i64 B)∧W.cell? ⟨cb,off+h.pc*5+3,none⟩=some (.int .i64 C)∧W.cell? ⟨cb,off+h.pc*5+4,none⟩=some (.string dto)) ((first|assumption|(refine HS.out _ ?_;repeat (first|exact Mod.refl _ _|refine Mod.drew ?_|refine Mod.alloc ?_ _|refine mod_set1 ?_ (Nat.le_refl _) _ _)))) (first|fail)
 obtain ⟨wz,hwz⟩:∃wz,wz=w6.alloc (.cells #[.string ⟨#[110,101,101,100]⟩,.int .i64 ra,.int .i64 B,.int .i64 C,.string dto] 73):=⟨_,rfl⟩
 have hmz:Mod noF w6 wz:=by rw[hwz];exact (Mod.refl noF w6).alloc _
 have hbz:w6.heap.size<wz.heap.size:=by rw[hwz];simp
 have s0:wz.cell? ⟨w6.heap.size,0,none⟩=some (.string ⟨#[110,101,101,100]⟩):=by rw[hwz];simp
 have s1:wz.cell? ⟨w6.heap.size,1,none⟩=some (.int .i64 ra):=by rw[hwz];simp
 have s2:wz.cell? ⟨w6.heap.size,2,none⟩=some (.int .i64 B):=by rw[hwz];simp
 have s3:wz.cell? ⟨w6.heap.size,3,none⟩=some (.int .i64 C):=by rw[hwz];simp
 have s4:wz.cell? ⟨w6.heap.size,4,none⟩=some (.string dto):=by rw[hwz];simp
 rw[←hwz];have hz:=Hm6.out.trans0 hmz;have hzP:=HH.out.keep0 hz;have q10:=hmz.cell r10 (fun e=>e);have q10f:=hzP.p.reg_free Hh.out (t*11+10);have hMp:Mod (fun k=>k=X.bL) wz (wz.setCell ⟨X.bL,t*11+10,none⟩ (.int .i64 ((h.pc:Int)+1))):=(Mod.refl (fun k=>k=X.bL) wz).setCell (fun _=>rfl) _
 have nb:∀j:Nat,¬(⟨w6.heap.size,j,none⟩:Addr).block=X.bL:=fun j (e:w6.heap.size=X.bL)=>by omega
 have z0:=hMp.cell s0 (nb 0);have z1:=hMp.cell s1 (nb 1);have z2:=hMp.cell s2 (nb 2);have z3:=hMp.cell s3 (nb 3);have z4:=hMp.cell s4 (nb 4);have hup:=(XUp.quiet HH.out.p hz).trans (hzP.p.setPcQ Hh.out (h.pc+1));rw[show ((h.pc+1:Nat):Int)=(h.pc:Int)+1 from by omega]at hup
 have hT1:(m.setPc t (h.pc+1)).T[t]?=some {h with pc:=h.pc+1}:=setPc_T Hh.out _;have HT1:=Lib.hid hT1;obtain ⟨wp,hwp⟩:∃wp,wp=wz.setCell ⟨X.bL,t*11+10,none⟩ (.int .i64 ((h.pc:Int)+1)):=⟨_,rfl⟩;rw[←hwp]at hup;have y0:=z0;have y1:=z1;have y2:=z2;have y3:=z3;have y4:=z4;rw[←hwp]at y0 y1 y2 y3 y4
 have hbp:w6.heap.size<wp.heap.size:=by rw[hwp];simpa using hbz
 have HU:=Lib.hid hup;have Hwp:=Lib.hid hwp;clear hz hzP hMp nb hup hT1 hwz hmz hwp s0 s1 s2 s3 s4 HS r0 r10 c0 c1 c2 c3 c4 hst r10f;have x0:=HU.out.rep.reg_at HT1.out ha;have xf0:=HU.out.rep.reg_free HT1.out (t*11+2+ra);have xl:=(HU.out.rep.thr_at HT1.out).2.2
 obtain ⟨va,hva⟩:∃x,h.regs.getD ra 0=x:=⟨_,rfl⟩;rw[show ({h with pc:=h.pc+1}:Thr).regs.getD ra 0=h.regs.getD ra 0 from rfl,hva]at x0;rw[hva]at hz
 have hzd:decide (va=0)=false:=by simpa using hz
 go_wp2;rw[←Hwp.out]
 go_quiet (fail)
 go_wp2;go_ret;exact ⟨rfl,vs,mv,HU.out.then0 (by repeat (first|exact Mod.refl _ _|refine Mod.drew ?_|refine Mod.drewN ?_ _|refine Mod.alloc ?_ _))⟩
theorem pst_need_yes(H:PX w X vs mv m N)(hN:N≤900000000)(L:XLow b0 w a X vs mv){t:Nat}(ht:t<m.T.length){h:Thr}(hh:m.T[t]?=some h){ra:Nat}{B C:Int}{to:List UInt8}(ha:ra<8)(hz:h.regs.getD ra 0=0)(hx:h.code[h.pc]?=some ⟨19,ra,B,C,to⟩) :
  Calls Tryz.prog 14 #[.pointer (some ⟨X.bX,0,none⟩),.int .i64 t] w fun e w'=>e=.returned .nilIface∧∃vs' mv',XUp w X vs mv m w' ((m.setPc t (h.pc+1)).fault) vs' mv':=by
 have hthr:m.thr t=h:=by simp[M.thr,List.getD,hh]
 have hdone:m.done t=false:=by unfold M.done;rw[hthr,hx];rfl
 have hpd:=pdone_any H t ht;rw[hdone]at hpd;obtain ⟨t0,t1,-,-,-,t5⟩:=H.p.top_at;have ht6:=H.t6
 have d0:decide ((t:Int)<0)=false:=by simp
 have d1:decide ((m.T.length:Int)≤(t:Int))=false:=by simp;omega
 have d2:(t:Int)<(m.T.length:Int):=by omega
 have hh8:=(H.ot.regs t h hh).1;obtain ⟨hpc,hco⟩:=H.ot.code t h hh;have hlen:=hco.len;have hlt:h.pc<h.code.length:=(List.getElem?_eq_some_iff.1 hx).1
 have d3:(h.pc:Int)<(h.code.length:Int):=by omega
 have hwr:IntKind.i64.wrap ((h.pc:Int)+1)=(h.pc:Int)+1:=IntWalk.i64_in _ (by omega)
 have ira0:(0:Int)≤(ra:Int):=by omega
 have ira8:(ra:Int)<8:=by omega
 have hf0:=H.ot.f0;have hwf:IntKind.i64.wrap (m.faults+1)=m.faults+1:=IntWalk.i64_in _ (by omega);have HH:=Lib.hid H;have HL:=Lib.hid L;have Hh:=Lib.hid hh;have Hx:=Lib.hid hx;have Hpd:=Lib.hid hpd;have Hco:=Lib.hid hco;clear H L hh hx hpd hthr hdone hco
 go_enter Tryz.func14,Tryz.ntmps14
 go_wp2_with fail
 refine Hpd.out.mono ?_;rintro e w6 ⟨rfl,hm6⟩;have h6:=HH.out.keep0 hm6;obtain ⟨u0,u1,-,-,-,u5⟩:=h6.p.top_at;obtain ⟨r1,-,r3⟩:=h6.p.thr_at Hh.out;obtain ⟨cb,off,cc,e,hcb,hcell⟩:=pcode_cell h6.p Hh.out Hx.out;have r0:w6.cell? ⟨X.bL,t*11,none⟩=some (X.cv t):=r1 0 _ rfl;rw[e]at r0
 have r10:w6.cell? ⟨X.bL,t*11+10,none⟩=some (.int .i64 (h.pc:Nat)):=r1 10 _ rfl;have r10f:=h6.p.reg_free Hh.out (t*11+10);have c0:=hcell 0 _ rfl;have c1:=hcell 1 _ rfl;have c2:=hcell 2 _ rfl;have c3:=hcell 3 _ rfl;have c4:=hcell 4 _ rfl;have hcf:=(h6.p.code t h Hh.out).2 cb (by rw[e];rfl)
 have hcL:X.bL≠cb:=fun e=>hcf.1 (.inr (.inl e.symm));have hXl:X.bL<w6.heap.size:=r3;simp only[Nat.add_zero,opStr,iv,sv]at c0 c1 c2 c3 c4;generalize hd4:(⟨to.toArray⟩:ByteArray)=dto at *;have Hd4:=Lib.hid hd4;have H6:=Lib.hid h6;have Hm6:=Lib.hid hm6;have He:=Lib.hid e
 have hst:w6.cell? ⟨X.bL,t*11,none⟩=some (.slice (some ⟨cb,off,none⟩) h.code.length cc)∧w6.cell? ⟨X.bL,t*11+10,none⟩=some (.int .i64 (h.pc:Nat))∧w6.cell? ⟨cb,off+h.pc*5,none⟩=some (.string ⟨#[110,101,101,100]⟩)∧w6.cell? ⟨cb,off+h.pc*5+1,none⟩=some (.int .i64 ra)∧w6.cell? ⟨cb,off+h.pc*5+2,none⟩=some (.int .i64 B)∧w6.cell? ⟨cb,off+h.pc*5+3,none⟩=some (.int .i64 C)∧w6.cell? ⟨cb,off+h.pc*5+4,none⟩=some (.string dto):=⟨r0,r10,c0,c1,c2,c3,c4⟩
 have hS:∀W,Mod noF w6 W→W.cell? ⟨X.bL,t*11,none⟩=some (.slice (some ⟨cb,off,none⟩) h.code.length cc)∧W.cell? ⟨X.bL,t*11+10,none⟩=some (.int .i64 (h.pc:Nat))∧W.cell? ⟨cb,off+h.pc*5,none⟩=some (.string ⟨#[110,101,101,100]⟩)∧W.cell? ⟨cb,off+h.pc*5+1,none⟩=some (.int .i64 ra)∧W.cell? ⟨cb,off+h.pc*5+2,none⟩=some (.int .i64 B)∧W.cell? ⟨cb,off+h.pc*5+3,none⟩=some (.int .i64 C)∧W.cell? ⟨cb,off+h.pc*5+4,none⟩=some (.string dto):=fun W hW=>⟨hW.cell r0 (fun e=>e),hW.cell r10 (fun e=>e),hW.cell c0 (fun e=>e),hW.cell c1 (fun e=>e),hW.cell c2 (fun e=>e),hW.cell c3 (fun e=>e),hW.cell c4 (fun e=>e)⟩
 have HS:=Lib.hid hS;clear h6 hm6 e hcell r1 hd4 hcf t0 t1 t5 hS;go_wp2
 go_region_held3 (fun W=>W.cell? ⟨X.bL,t*11,none⟩=some (.slice (some ⟨cb,off,none⟩) h.code.length cc)∧W.cell? ⟨X.bL,t*11+10,none⟩=some (.int .i64 (h.pc:Nat))∧W.cell? ⟨cb,off+h.pc*5,none⟩=some (.string ⟨#[110,101,101,100]⟩)∧W.cell? ⟨cb,off+h.pc*5+1,none⟩=some (.int .i64 ra)∧W.cell? ⟨cb,off+h.pc*5+2,none⟩=some (.int .i64 B)∧W.cell? ⟨cb,off+h.pc*5+3,none⟩=some (.int .i64 C)∧W.cell? ⟨cb,off+h.pc*5+4,none⟩=some (.string dto)) ((first|assumption|(refine HS.out _ ?_;repeat (first|exact Mod.refl _ _|refine Mod.drew ?_|refine Mod.alloc ?_ _|refine mod_set1 ?_ (Nat.le_refl _) _ _)))) (first|fail)
 obtain ⟨wz,hwz⟩:∃wz,wz=w6.alloc (.cells #[.string ⟨#[110,101,101,100]⟩,.int .i64 ra,.int .i64 B,.int .i64 C,.string dto] 73):=⟨_,rfl⟩
 have hmz:Mod noF w6 wz:=by rw[hwz];exact (Mod.refl noF w6).alloc _
 have hbz:w6.heap.size<wz.heap.size:=by rw[hwz];simp
 have s0:wz.cell? ⟨w6.heap.size,0,none⟩=some (.string ⟨#[110,101,101,100]⟩):=by rw[hwz];simp
 have s1:wz.cell? ⟨w6.heap.size,1,none⟩=some (.int .i64 ra):=by rw[hwz];simp
 have s2:wz.cell? ⟨w6.heap.size,2,none⟩=some (.int .i64 B):=by rw[hwz];simp
 have s3:wz.cell? ⟨w6.heap.size,3,none⟩=some (.int .i64 C):=by rw[hwz];simp
 have s4:wz.cell? ⟨w6.heap.size,4,none⟩=some (.string dto):=by rw[hwz];simp
 rw[←hwz];have hz:=Hm6.out.trans0 hmz;have hzP:=HH.out.keep0 hz;have q10:=hmz.cell r10 (fun e=>e);have q10f:=hzP.p.reg_free Hh.out (t*11+10);have hMp:Mod (fun k=>k=X.bL) wz (wz.setCell ⟨X.bL,t*11+10,none⟩ (.int .i64 ((h.pc:Int)+1))):=(Mod.refl (fun k=>k=X.bL) wz).setCell (fun _=>rfl) _
 have nb:∀j:Nat,¬(⟨w6.heap.size,j,none⟩:Addr).block=X.bL:=fun j (e:w6.heap.size=X.bL)=>by omega
 have z0:=hMp.cell s0 (nb 0);have z1:=hMp.cell s1 (nb 1);have z2:=hMp.cell s2 (nb 2);have z3:=hMp.cell s3 (nb 3);have z4:=hMp.cell s4 (nb 4);have hup:=(XUp.quiet HH.out.p hz).trans (hzP.p.setPcQ Hh.out (h.pc+1));rw[show ((h.pc+1:Nat):Int)=(h.pc:Int)+1 from by omega]at hup
 have hT1:(m.setPc t (h.pc+1)).T[t]?=some {h with pc:=h.pc+1}:=setPc_T Hh.out _;have HT1:=Lib.hid hT1;obtain ⟨wp,hwp⟩:∃wp,wp=wz.setCell ⟨X.bL,t*11+10,none⟩ (.int .i64 ((h.pc:Int)+1)):=⟨_,rfl⟩;rw[←hwp]at hup;have y0:=z0;have y1:=z1;have y2:=z2;have y3:=z3;have y4:=z4;rw[←hwp]at y0 y1 y2 y3 y4
 have hbp:w6.heap.size<wp.heap.size:=by rw[hwp];simpa using hbz
 have HU:=Lib.hid hup;have Hwp:=Lib.hid hwp;clear hz hzP hMp nb hup hT1 hwz hmz hwp s0 s1 s2 s3 s4 HS r0 r10 c0 c1 c2 c3 c4 hst r10f;have x0:=HU.out.rep.reg_at HT1.out ha;have xf0:=HU.out.rep.reg_free HT1.out (t*11+2+ra);have xl:=(HU.out.rep.thr_at HT1.out).2.2
 obtain ⟨va,hva⟩:∃x,h.regs.getD ra 0=x:=⟨_,rfl⟩;rw[show ({h with pc:=h.pc+1}:Thr).regs.getD ra 0=h.regs.getD ra 0 from rfl,hva]at x0;obtain ⟨-,-,-,f3,f4,f5⟩:=HU.out.rep.top_at;have f33:=f4 3;clear f4;replace f3:wp.cell? ⟨X.bX,3,none⟩=some (.int .i64 m.faults):=f3;rw[hz]at hva;subst hva;go_wp2
 rw[←Hwp.out]
 go_quiet (fail)
 go_wp2;go_ret;exact ⟨rfl,vs,mv,(HU.out.then0 ((Mod.refl noF wp).drewN _)).trans ((HU.out.rep.keep0 ((Mod.refl noF wp).drewN _)).setFaults (m.faults+1))⟩
end
section
open Go.RowKit Qs Qh
variable {w w1 w2 w' b0:World}{X:XB}{vs vs':List Value}{mv mv':Value}{m m':M}{N:Int}{a:Nat→Addr}
theorem pst_touch(H:PX w X vs mv m N)(hN:N≤900000000)(L:XLow b0 w a X vs mv){t:Nat}(ht:t<m.T.length){h:Thr}(hh:m.T[t]?=some h){op:Nat}{A B C:Int}{to:List UInt8}(h20:op≠20)(k0:((opStr op).data.toList==[99,111,110,115,116])=false)(k1:((opStr op).data.toList==[109,111,118,101])=false)(k2:((opStr op).data.toList==[97,100,100])=false)(k3:((opStr op).data.toList==[115,117,98])=false)(k4:((opStr op).data.toList==[97,110,100])=false)(k5:((opStr op).data.toList==[120,111,114])=false)(k6:((opStr op).data.toList==[122,101,114,111])=false)(k7:((opStr op).data.toList==[115,97,109,101])=false)(k8:((opStr op).data.toList==[103,111,116,111])=false)(k9:((opStr op).data.toList==[109,97,114,107])=false)(k10:((opStr op).data.toList==[110,101,101,100])=false){M':M}(htouch:∀W,XUp w X vs mv m W (m.setPc t (h.pc+1)) vs mv→Calls Tryz.prog 47 #[.pointer (some ⟨X.bX,0,none⟩),.int .i64 t,insV op A B C ⟨to.toArray⟩] W fun e w'=>e=.returned (.tuple #[])∧∃vs',XUp W X vs mv (m.setPc t (h.pc+1)) w' M' vs' mv)(hx:h.code[h.pc]?=some ⟨op,A,B,C,to⟩) :
  Calls Tryz.prog 14 #[.pointer (some ⟨X.bX,0,none⟩),.int .i64 t] w fun e w'=>e=.returned .nilIface∧∃vs' mv',XUp w X vs mv m w' (M') vs' mv':=by
 have hthr:m.thr t=h:=by simp[M.thr,List.getD,hh]
 have hdone:m.done t=false:=by unfold M.done;rw[hthr,hx];simp only[beq_eq_false_iff_ne];exact h20
 have hpd:=pdone_any H t ht;rw[hdone]at hpd;obtain ⟨t0,t1,-,-,-,t5⟩:=H.p.top_at;have ht6:=H.t6
 have d0:decide ((t:Int)<0)=false:=by simp
 have d1:decide ((m.T.length:Int)≤(t:Int))=false:=by simp;omega
 have d2:(t:Int)<(m.T.length:Int):=by omega
 have hh8:=(H.ot.regs t h hh).1;obtain ⟨hpc,hco⟩:=H.ot.code t h hh;have hlen:=hco.len;have hlt:h.pc<h.code.length:=(List.getElem?_eq_some_iff.1 hx).1
 have d3:(h.pc:Int)<(h.code.length:Int):=by omega
 have hwr:IntKind.i64.wrap ((h.pc:Int)+1)=(h.pc:Int)+1:=IntWalk.i64_in _ (by omega);have Ht:=Lib.hid htouch;clear htouch;rw[←Lib.toList_data]at k10 k9 k8 k7 k6 k5 k4 k3 k2 k1 k0;have HH:=Lib.hid H;have HL:=Lib.hid L;have Hh:=Lib.hid hh;have Hx:=Lib.hid hx;have Hpd:=Lib.hid hpd;have Hco:=Lib.hid hco
 clear H L hh hx hpd hthr hdone hco
 go_enter Tryz.func14,Tryz.ntmps14
 go_wp2_with fail
 refine Hpd.out.mono ?_;rintro e w6 ⟨rfl,hm6⟩;have h6:=HH.out.keep0 hm6;obtain ⟨u0,u1,-,-,-,u5⟩:=h6.p.top_at;obtain ⟨r1,-,r3⟩:=h6.p.thr_at Hh.out;obtain ⟨cb,off,cc,e,hcb,hcell⟩:=pcode_cell h6.p Hh.out Hx.out;have r0:w6.cell? ⟨X.bL,t*11,none⟩=some (X.cv t):=r1 0 _ rfl;rw[e]at r0
 have r10:w6.cell? ⟨X.bL,t*11+10,none⟩=some (.int .i64 (h.pc:Nat)):=r1 10 _ rfl;have r10f:=h6.p.reg_free Hh.out (t*11+10);have c0:=hcell 0 _ rfl;have c1:=hcell 1 _ rfl;have c2:=hcell 2 _ rfl;have c3:=hcell 3 _ rfl;have c4:=hcell 4 _ rfl;have hcf:=(h6.p.code t h Hh.out).2 cb (by rw[e];rfl)
 have hcL:X.bL≠cb:=fun e=>hcf.1 (.inr (.inl e.symm));have hXl:X.bL<w6.heap.size:=r3;simp only[Nat.add_zero,iv,sv]at c0 c1 c2 c3 c4;obtain ⟨ops,hops⟩:∃ops,ops=opStr op:=⟨_,rfl⟩;have Hops:=Lib.hid hops;rw[←hops]at c0 k0 k1 k2 k3 k4 k5 k6 k7 k8 k9 k10;clear hops
 generalize hd4:(⟨to.toArray⟩:ByteArray)=dto at *;have Hd4:=Lib.hid hd4;have H6:=Lib.hid h6;have Hm6:=Lib.hid hm6;have He:=Lib.hid e
 have hst:w6.cell? ⟨X.bL,t*11,none⟩=some (.slice (some ⟨cb,off,none⟩) h.code.length cc)∧w6.cell? ⟨X.bL,t*11+10,none⟩=some (.int .i64 (h.pc:Nat))∧w6.cell? ⟨cb,off+h.pc*5,none⟩=some (.string ops)∧w6.cell? ⟨cb,off+h.pc*5+1,none⟩=some (.int .i64 A)∧w6.cell? ⟨cb,off+h.pc*5+2,none⟩=some (.int .i64 B)∧w6.cell? ⟨cb,off+h.pc*5+3,none⟩=some (.int .i64 C)∧w6.cell? ⟨cb,off+h.pc*5+4,none⟩=some (.string dto):=⟨r0,r10,c0,c1,c2,c3,c4⟩
 have hS:∀W,Mod noF w6 W→W.cell? ⟨X.bL,t*11,none⟩=some (.slice (some ⟨cb,off,none⟩) h.code.length cc)∧W.cell? ⟨X.bL,t*11+10,none⟩=some (.int .i64 (h.pc:Nat))∧W.cell? ⟨cb,off+h.pc*5,none⟩=some (.string ops)∧W.cell? ⟨cb,off+h.pc*5+1,none⟩=some (.int .i64 A)∧W.cell? ⟨cb,off+h.pc*5+2,none⟩=some (.int .i64 B)∧W.cell? ⟨cb,off+h.pc*5+3,none⟩=some (.int .i64 C)∧W.cell? ⟨cb,off+h.pc*5+4,none⟩=some (.string dto):=fun W hW=>⟨hW.cell r0 (fun e=>e),hW.cell r10 (fun e=>e),hW.cell c0 (fun e=>e),hW.cell c1 (fun e=>e),hW.cell c2 (fun e=>e),hW.cell c3 (fun e=>e),hW.cell c4 (fun e=>e)⟩
 have HS:=Lib.hid hS;clear h6 hm6 e hcell r1 hd4 hcf t0 t1 t5 hS;go_wp2
 go_region_held3 (fun W=>W.cell? ⟨X.bL,t*11,none⟩=some (.slice (some ⟨cb,off,none⟩) h.code.length cc)∧W.cell? ⟨X.bL,t*11+10,none⟩=some (.int .i64 (h.pc:Nat))∧W.cell? ⟨cb,off+h.pc*5,none⟩=some (.string ops)∧W.cell? ⟨cb,off+h.pc*5+1,none⟩=some (.int .i64 A)∧W.cell? ⟨cb,off+h.pc*5+2,none⟩=some (.int .i64 B)∧W.cell? ⟨cb,off+h.pc*5+3,none⟩=some (.int .i64 C)∧W.cell? ⟨cb,off+h.pc*5+4,none⟩=some (.string dto)) ((first|assumption|(refine HS.out _ ?_;repeat (first|exact Mod.refl _ _|refine Mod.drew ?_|refine Mod.alloc ?_ _|refine mod_set1 ?_ (Nat.le_refl _) _ _)))) (first|fail)
 obtain ⟨wz,hwz⟩:∃wz,wz=w6.alloc (.cells #[.string ops,.int .i64 A,.int .i64 B,.int .i64 C,.string dto] 73):=⟨_,rfl⟩
 have hmz:Mod noF w6 wz:=by rw[hwz];exact (Mod.refl noF w6).alloc _
 have hbz:w6.heap.size<wz.heap.size:=by rw[hwz];simp
 have s0:wz.cell? ⟨w6.heap.size,0,none⟩=some (.string ops):=by rw[hwz];simp
 have s1:wz.cell? ⟨w6.heap.size,1,none⟩=some (.int .i64 A):=by rw[hwz];simp
 have s2:wz.cell? ⟨w6.heap.size,2,none⟩=some (.int .i64 B):=by rw[hwz];simp
 have s3:wz.cell? ⟨w6.heap.size,3,none⟩=some (.int .i64 C):=by rw[hwz];simp
 have s4:wz.cell? ⟨w6.heap.size,4,none⟩=some (.string dto):=by rw[hwz];simp
 rw[←hwz];have hz:=Hm6.out.trans0 hmz;have hzP:=HH.out.keep0 hz;have q10:=hmz.cell r10 (fun e=>e);have q10f:=hzP.p.reg_free Hh.out (t*11+10);have hMp:Mod (fun k=>k=X.bL) wz (wz.setCell ⟨X.bL,t*11+10,none⟩ (.int .i64 ((h.pc:Int)+1))):=(Mod.refl (fun k=>k=X.bL) wz).setCell (fun _=>rfl) _
 have nb:∀j:Nat,¬(⟨w6.heap.size,j,none⟩:Addr).block=X.bL:=fun j (e:w6.heap.size=X.bL)=>by omega
 have z0:=hMp.cell s0 (nb 0);have z1:=hMp.cell s1 (nb 1);have z2:=hMp.cell s2 (nb 2);have z3:=hMp.cell s3 (nb 3);have z4:=hMp.cell s4 (nb 4);have hup:=(XUp.quiet HH.out.p hz).trans (hzP.p.setPcQ Hh.out (h.pc+1));rw[show ((h.pc+1:Nat):Int)=(h.pc:Int)+1 from by omega]at hup
 have hT1:(m.setPc t (h.pc+1)).T[t]?=some {h with pc:=h.pc+1}:=setPc_T Hh.out _;have HT1:=Lib.hid hT1;obtain ⟨wp,hwp⟩:∃wp,wp=wz.setCell ⟨X.bL,t*11+10,none⟩ (.int .i64 ((h.pc:Int)+1)):=⟨_,rfl⟩;rw[←hwp]at hup;have y0:=z0;have y1:=z1;have y2:=z2;have y3:=z3;have y4:=z4;rw[←hwp]at y0 y1 y2 y3 y4
 have hbp:w6.heap.size<wp.heap.size:=by rw[hwp];simpa using hbz
 have HU:=Lib.hid hup;have Hwp:=Lib.hid hwp;clear hz hzP hMp nb hup hT1 hwz hmz hwp s0 s1 s2 s3 s4 HS r0 r10 c0 c1 c2 c3 c4 hst r10f;have htc:=Ht.out wp.drew (HU.out.then0 (Mod.refl noF wp).drew);unfold insV at htc;rw[←Hops.out]at htc;have Htc:=Lib.hid htc;clear htc
 go_wp2_with fail
 rw[←Hwp.out];refine Htc.out.mono ?_;rintro e w9 ⟨rfl,vs9,hU9⟩;have HU9:=Lib.hid hU9;clear hU9;go_wp2;go_ret;exact ⟨rfl,vs9,mv,(HU.out.then0 (Mod.refl noF wp).drew).trans HU9.out⟩
end
section
open Go.RowKit Qs Qh
variable {w w1 w2 w' b0:World}{X:XB}{vs vs':List Value}{mv mv':Value}{L L':Lay}{m m':M}{N N':Int}{a:Nat→Addr}
def LabsOk(m:M):Prop:=∀(t:Nat) h,m.T[t]?=some h→∀x∈h.code,x.to.length≤maxLen
end
section
open Go.RowKit Qs Qh
variable {b0 w w1 w2 w':World}{a:Nat→Addr}{X:XB}{vs vs':List Value}{mv mv':Value}{m m':M}{N:Int}
theorem eql_nilE(p:Addr)(w:World):(binOp .eql 31 .nilIface (.iface 241 (.pointer (some p)))).run Tryz.prog w=.ok (.bool false) w:=by kernel_rfl
theorem is_nilE(p:Addr)(w:World):Calls Tryz.prog 58 #[.nilIface,.iface 241 (.pointer (some p))] w fun e w'=>e=.returned (.bool false)∧w'=w:=by
 have hq:=eql_nilE
 go_enter Tryz.func58,Tryz.ntmps58
 go_wp2;go_ret;exact ⟨rfl,rfl⟩
theorem pmdrain_any(H:PX w X vs mv m N)(hN:N≤1000000000)(L:XLow b0 w a X vs mv){t:Nat}(ht:t<m.T.length) :
  Calls Tryz.prog 16 #[.pointer (some ⟨X.bX,0,none⟩),.int .i64 t] w fun e w'=>e=.returned (errOf' a (m.drain t).2)∧∃vs',XUp w X vs mv m w' (m.drain t).1 vs' mv:=by
 obtain ⟨q,hq⟩:∃q,m.waits[t]?=some q:=⟨_,List.getElem?_eq_getElem (by rw[H.ot.len];exact ht)⟩
 have hwo:m.waitsOf t=q:=by simp[M.waitsOf,List.getD,hq]
 have hq8:=H.om.wlen t q hq;have hn6:=H.om.waits;obtain ⟨t0,-⟩:=H.p.top_at;unfold M.drain;rw[hwo]
 cases q with
 |nil=>
  have hcall:=pdrain_none H.p.mem L.E.four hq hn6;have E1:=L.E;have v6:=E1.v6;have his:=fun W (hm:Mod noF w W)=>isM_at (L.keep hm).E (i:=4) (.inr (.inl rfl));have Hv6:=Lib.hid fun W (hm:Mod noF w W)=>(L.keep hm).E.v6;unfold errV at his hcall;have His:=Lib.hid his;have Hcall:=Lib.hid hcall
  have HH:=Lib.hid H;clear H L hcall his hq hwo E1 v6;simp only
  go_enter Tryz.func16,Tryz.ntmps16
  go_wp2_with fail
  refine Hcall.out.mono ?_;rintro e w1 ⟨rfl,hm1⟩;have v6:=Hv6.out _ hm1;have Hm1:=Lib.hid hm1;clear hm1
  go_wp2_with fail
  refine (His.out _ Hm1.out).mono ?_;rintro e w2 ⟨rfl,rfl⟩;go_wp2;go_ret;exact ⟨rfl,_,XUp.quiet HH.out.p Hm1.out⟩
 |cons x r=>
  have hx:isWord x.v=true∧0≤x.w∧x.w<4:=by
   obtain ⟨h1,h2,h3,-⟩:=H.om.wval t _ hq x (by simp);exact ⟨h1,h2,h3⟩
  have hC:=H.cells hN;have hcall:=pdrain_some H.p.mem L.P hC.len hC.times hC.words hq hn6 (by simp at hq8;omega);unfold pdrainE at hcall;rw[←drain1_store hx,storeE_ok hx]at hcall;have HH:=Lib.hid H;have HL:=Lib.hid L;have Hf0:=Lib.hid H.ot.f0;clear H L hq hwo hC;simp only
  cases hin:hereIn m.cells x.c x.g with
  |true=>
   rw[hin,if_pos rfl]at hcall;simp only[errOf',if_true]at hcall
   have h2:(drain1 m.cells x).2=false:=by simp[drain1,hin]
   have Hcall:=Lib.hid hcall;rw[h2];simp only[Bool.false_eq_true,if_false,if_true,Int.add_zero];clear hcall hin h2
   go_enter Tryz.func16,Tryz.ntmps16
   go_wp2_with fail
   refine Hcall.out.mono ?_;rintro e w1 ⟨rfl,vs1,hU1⟩;have hu1:=HH.out.p.mem_up hU1;have v6:=(HL.out.up hu1).E.v6;have Hu1:=Lib.hid hu1;clear hu1 hU1 Hcall
   go_wp2_with fail
   refine (is_nilE _ _).mono ?_;rintro e w2 ⟨rfl,rfl⟩;go_wp2;go_ret;exact ⟨rfl,vs1,Hu1.out⟩
  |false=>
   rw[hin]at hcall;simp only[errOf',errV,if_false,Bool.false_eq_true,show ((7:Int)=0)=False by decide,show (7:Int).toNat - 1=6 from rfl]at hcall
   have h2:(drain1 m.cells x).2=true:=by simp[drain1,hin]
   have Hcall:=Lib.hid hcall;rw[h2];simp only[Bool.false_eq_true,if_false,if_true,Int.add_zero];clear hcall hin h2
   go_enter Tryz.func16,Tryz.ntmps16
   go_wp2_with fail
   refine Hcall.out.mono ?_;rintro e w1 ⟨rfl,vs1,hU1⟩;have hu1:=HH.out.p.mem_up hU1;have E1:=(HL.out.up hu1).E;have v6:=E1.v6;have his:=isM_at E1 (i:=6) (.inr (.inr rfl));unfold errV at his;have His:=Lib.hid his;have Hu1:=Lib.hid hu1;clear hu1 hU1 Hcall his E1
   go_wp2_with fail
   refine His.out.mono ?_;rintro e w2 ⟨rfl,rfl⟩
   go_wp2_with fail
   refine (pfault_some Hu1.out.rep Hf0.out.1 (by have:=Hf0.out.2;show m.faults≤_;omega) _ _).mono ?_;rintro e w3 ⟨rfl,rfl⟩;have hu3:=Hu1.out.trans (Hu1.out.rep.setFaults (m.faults+1));have Hu3:=Lib.hid hu3;clear hu3;go_wp2;go_ret;exact ⟨rfl,vs1,Hu3.out⟩
end
section
open Go.RowKit Qs Qh
theorem pnew_mem(n:Int)(iw rw_ cw:Value)(init regs:List (List Int))(codes:List (List RI))(cv:Nat→Value)(w:World){a:Nat→Addr}(E:ErrsM w a)(hI:RowsAt0 w iw init)(hR:RowsAt0 w rw_ regs)(hC:RCodesAt w cw codes cv)
  (h:n<1∨64<n∨codes.length<1∨6<codes.length) :
  Calls Tryz.prog 10 #[.agg #[.int .i64 n,iw,rw_],cw] w fun e w'=>e=.returned (.tuple #[.pointer none,errV a 1])∧Mod noF w w':=by
 obtain ⟨wz,hwz⟩:∃wz,wz=w.alloc (.cells #[.int .i64 n,iw,rw_] 34):=⟨_,rfl⟩
 have hmz:Mod noF w wz:=by rw[hwz];exact (Mod.refl noF w).alloc _
 have hcall:Calls Tryz.prog 32 #[.int .i64 n,.int .i64 codes.length] wz fun e w'=>e=.returned (.tuple #[.pointer none,errV a 1])∧Mod noF wz w':=by
  by_cases h2:n<1∨64<n
  ·exact pmNew_cells n codes.length h2 wz (E.keep hmz).four
  ·obtain ⟨k,rfl⟩:=Int.eq_ofNat_of_zero_le (show 0≤n by omega);exact pmNew_threads k codes.length (by omega) (by omega) (by omega) wz (E.keep hmz).four
 unfold errV at hcall;have Hcall:=Lib.hid hcall;clear hcall h;obtain ⟨ia,ic,rfl,-⟩:=hI;obtain ⟨ra,rc,rfl,-⟩:=hR;obtain ⟨ca,cc,rfl,-⟩:=hC;have HE:=Lib.hid E;clear E
 have s0:wz.cell? ⟨w.heap.size,0,none⟩=some (.int .i64 n):=by rw[hwz];simp
 have s1:wz.cell? ⟨w.heap.size,1,none⟩=some (.slice ia init.length ic):=by rw[hwz];simp
 have s2:wz.cell? ⟨w.heap.size,2,none⟩=some (.slice ra regs.length rc):=by rw[hwz];simp
 have sb:w.heap.size<wz.heap.size:=by rw[hwz];simp
 have Hmz:=Lib.hid hmz;clear hmz
 go_enter Tryz.func10,Tryz.ntmps10
 go_wp2_with fail
 rw[←hwz];clear hwz;refine Hcall.out.mono ?_;rintro e w1 ⟨rfl,hm1⟩;have Hm1:=Lib.hid hm1;clear hm1 s0 s1 s2;go_wp2;go_ret2;exact ⟨rfl,Hmz.out.trans0 Hm1.out⟩
theorem pnew_len1(n:Nat)(iw rw_ cw:Value)(init regs:List (List Int))(codes:List (List RI))(cv:Nat→Value)(w:World){a:Nat→Addr}(E:ErrsM w a)(hI:RowsAt0 w iw init)(hR:RowsAt0 w rw_ regs)(hC:RCodesAt w cw codes cv)
  (h1:1≤n) (hn:n≤64) (hc1:1≤codes.length) (hc6:codes.length≤6) (h:(n:Int)<init.length) :
  Calls Tryz.prog 10 #[.agg #[.int .i64 n,iw,rw_],cw] w fun e w'=>e=.returned (.tuple #[.pointer none,errV a 1])∧Mod noF w w':=by
 obtain ⟨wz,hwz⟩:∃wz,wz=w.alloc (.cells #[.int .i64 n,iw,rw_] 34):=⟨_,rfl⟩
 have hmz:Mod noF w wz:=by rw[hwz];exact (Mod.refl noF w).alloc _
 obtain ⟨ia,ic,rfl,-⟩:=hI;obtain ⟨ra,rc,rfl,-⟩:=hR;obtain ⟨ca,cc,rfl,-⟩:=hC;have HE:=Lib.hid E;clear E
 have s0:wz.cell? ⟨w.heap.size,0,none⟩=some (.int .i64 n):=by rw[hwz];simp
 have s1:wz.cell? ⟨w.heap.size,1,none⟩=some (.slice ia init.length ic):=by rw[hwz];simp
 have s2:wz.cell? ⟨w.heap.size,2,none⟩=some (.slice ra regs.length rc):=by rw[hwz];simp
 have sb:w.heap.size<wz.heap.size:=by rw[hwz];simp
 have Hmz:=Lib.hid hmz;clear hmz
 have d1:decide ((init.length:Int)≤(n:Int))=false:=by simp;omega
 go_enter Tryz.func10,Tryz.ntmps10
 go_wp2_with fail
 rw[←hwz];clear hwz;refine (pmNew_ok n codes.length h1 hn hc1 hc6 wz).mono ?_;rintro e w1 ⟨P,rfl,-,hm1,-⟩;have q0:=hm1.cell s0 (fun e=>e);have q1:=hm1.cell s1 (fun e=>e);have q2:=hm1.cell s2 (fun e=>e);have qb:=Nat.lt_of_lt_of_le sb hm1.size;have v1:=(HE.out.keep (Hmz.out.trans0 hm1)).v1
 have Hm1:=Lib.hid hm1;clear hm1 s0 s1 s2;go_wp2
 go_quiet (fail)
 go_wp2;go_ret2;exact ⟨rfl,by first|exact (Hmz.out.trans0 Hm1.out).drewN _|exact (Hmz.out.trans0 Hm1.out).drew|exact Hmz.out.trans0 Hm1.out⟩
theorem pnew_len2(n:Nat)(iw rw_ cw:Value)(init regs:List (List Int))(codes:List (List RI))(cv:Nat→Value)(w:World){a:Nat→Addr}(E:ErrsM w a)(hI:RowsAt0 w iw init)(hR:RowsAt0 w rw_ regs)(hC:RCodesAt w cw codes cv)
  (h1:1≤n) (hn:n≤64) (hc1:1≤codes.length) (hc6:codes.length≤6) (hin:init.length≤n) (h:codes.length<regs.length) :
  Calls Tryz.prog 10 #[.agg #[.int .i64 n,iw,rw_],cw] w fun e w'=>e=.returned (.tuple #[.pointer none,errV a 1])∧Mod noF w w':=by
 obtain ⟨wz,hwz⟩:∃wz,wz=w.alloc (.cells #[.int .i64 n,iw,rw_] 34):=⟨_,rfl⟩
 have hmz:Mod noF w wz:=by rw[hwz];exact (Mod.refl noF w).alloc _
 obtain ⟨ia,ic,rfl,-⟩:=hI;obtain ⟨ra,rc,rfl,-⟩:=hR;obtain ⟨ca,cc,rfl,-⟩:=hC;have HE:=Lib.hid E;clear E
 have s0:wz.cell? ⟨w.heap.size,0,none⟩=some (.int .i64 n):=by rw[hwz];simp
 have s1:wz.cell? ⟨w.heap.size,1,none⟩=some (.slice ia init.length ic):=by rw[hwz];simp
 have s2:wz.cell? ⟨w.heap.size,2,none⟩=some (.slice ra regs.length rc):=by rw[hwz];simp
 have sb:w.heap.size<wz.heap.size:=by rw[hwz];simp
 have Hmz:=Lib.hid hmz;clear hmz
 have d1:decide ((init.length:Int)≤(n:Int))=true:=by simp;omega
 have d2:decide ((regs.length:Int)≤(codes.length:Int))=false:=by simp;omega
 go_enter Tryz.func10,Tryz.ntmps10
 go_wp2_with fail
 rw[←hwz];clear hwz;refine (pmNew_ok n codes.length h1 hn hc1 hc6 wz).mono ?_;rintro e w1 ⟨P,rfl,-,hm1,-⟩;have q0:=hm1.cell s0 (fun e=>e);have q1:=hm1.cell s1 (fun e=>e);have q2:=hm1.cell s2 (fun e=>e);have qb:=Nat.lt_of_lt_of_le sb hm1.size;have v1:=(HE.out.keep (Hmz.out.trans0 hm1)).v1
 have Hm1:=Lib.hid hm1;clear hm1 s0 s1 s2;go_wp2
 go_quiet (fail)
 go_wp2;go_ret2;exact ⟨rfl,by first|exact (Hmz.out.trans0 Hm1.out).drewN _|exact (Hmz.out.trans0 Hm1.out).drew|exact Hmz.out.trans0 Hm1.out⟩
theorem pnew_row1(n:Nat)(iw rw_ cw:Value)(init regs:List (List Int))(codes:List (List RI))(cv:Nat→Value)(w:World){a:Nat→Addr}(E:ErrsM w a)(hI:RowsAt0 w iw init)(hR:RowsAt0 w rw_ regs)(hC:RCodesAt w cw codes cv)
  (h1:1≤n) (hn:n≤64) (hc1:1≤codes.length) (hc6:codes.length≤6) (hin:init.length≤n) (hrc:regs.length≤codes.length) (hi:init.all (rightB 4)=false) :
  Calls Tryz.prog 10 #[.agg #[.int .i64 n,iw,rw_],cw] w fun e w'=>e=.returned (.tuple #[.pointer none,errV a 1])∧Mod noF w w':=by
 obtain ⟨wz,hwz⟩:∃wz,wz=w.alloc (.cells #[.int .i64 n,iw,rw_] 34):=⟨_,rfl⟩
 have hmz:Mod noF w wz:=by rw[hwz];exact (Mod.refl noF w).alloc _
 have hci1:∀W,Mod noF wz W→Calls Tryz.prog 33 #[iw,.func (.func 34) #[] #[]] W fun e w'=>e=.returned (.bool true)∧W=w':=fun W hW=>
  (containsR1 W iw init (rows_keep0 hI (hmz.trans0 hW)) (by omega)).mono fun e w' h=>⟨by rw[h.1,hi];rfl,h.2⟩
 have Hci1:=Lib.hid hci1;clear hci1;obtain ⟨ia,ic,rfl,-⟩:=hI;obtain ⟨ra,rc,rfl,-⟩:=hR;obtain ⟨ca,cc,rfl,-⟩:=hC;have HE:=Lib.hid E;clear E
 have s0:wz.cell? ⟨w.heap.size,0,none⟩=some (.int .i64 n):=by rw[hwz];simp
 have s1:wz.cell? ⟨w.heap.size,1,none⟩=some (.slice ia init.length ic):=by rw[hwz];simp
 have s2:wz.cell? ⟨w.heap.size,2,none⟩=some (.slice ra regs.length rc):=by rw[hwz];simp
 have sb:w.heap.size<wz.heap.size:=by rw[hwz];simp
 have Hmz:=Lib.hid hmz;clear hmz
 have d1:decide ((init.length:Int)≤(n:Int))=true:=by simp;omega
 have d2:decide ((regs.length:Int)≤(codes.length:Int))=true:=by simp;omega
 go_enter Tryz.func10,Tryz.ntmps10
 go_wp2_with fail
 rw[←hwz];clear hwz;refine (pmNew_ok n codes.length h1 hn hc1 hc6 wz).mono ?_;rintro e w1 ⟨P,rfl,-,hm1,-⟩;have q0:=hm1.cell s0 (fun e=>e);have q1:=hm1.cell s1 (fun e=>e);have q2:=hm1.cell s2 (fun e=>e);have qb:=Nat.lt_of_lt_of_le sb hm1.size;have v1:=(HE.out.keep (Hmz.out.trans0 hm1)).v1
 have Hm1:=Lib.hid hm1;clear hm1 s0 s1 s2
 go_wp2_with fail
 refine (Hci1.out w1 Hm1.out).mono ?_;rintro e w' ⟨rfl,rfl⟩;go_wp2
 go_quiet (fail)
 go_wp2;go_ret2;exact ⟨rfl,by first|exact (Hmz.out.trans0 Hm1.out).drewN _|exact (Hmz.out.trans0 Hm1.out).drew|exact Hmz.out.trans0 Hm1.out⟩
theorem pnew_row2(n:Nat)(iw rw_ cw:Value)(init regs:List (List Int))(codes:List (List RI))(cv:Nat→Value)(w:World){a:Nat→Addr}(E:ErrsM w a)(hI:RowsAt0 w iw init)(hR:RowsAt0 w rw_ regs)(hC:RCodesAt w cw codes cv)
  (h1:1≤n) (hn:n≤64) (hc1:1≤codes.length) (hc6:codes.length≤6) (hin:init.length≤n) (hrc:regs.length≤codes.length) (hi:init.all (rightB 4)=true) (hr:regs.all (rightB 8)=false) :
  Calls Tryz.prog 10 #[.agg #[.int .i64 n,iw,rw_],cw] w fun e w'=>e=.returned (.tuple #[.pointer none,errV a 1])∧Mod noF w w':=by
 obtain ⟨wz,hwz⟩:∃wz,wz=w.alloc (.cells #[.int .i64 n,iw,rw_] 34):=⟨_,rfl⟩
 have hmz:Mod noF w wz:=by rw[hwz];exact (Mod.refl noF w).alloc _
 have hci1:∀W,Mod noF wz W→Calls Tryz.prog 33 #[iw,.func (.func 34) #[] #[]] W fun e w'=>e=.returned (.bool false)∧W=w':=fun W hW=>
  (containsR1 W iw init (rows_keep0 hI (hmz.trans0 hW)) (by omega)).mono fun e w' h=>⟨by rw[h.1,hi];rfl,h.2⟩
 have Hci1:=Lib.hid hci1;clear hci1
 have hci2:∀W,Mod noF wz W→Calls Tryz.prog 33 #[rw_,.func (.func 36) #[] #[]] W fun e w'=>e=.returned (.bool true)∧W=w':=fun W hW=>
  (containsR2 W rw_ regs (rows_keep0 hR (hmz.trans0 hW)) (by omega)).mono fun e w' h=>⟨by rw[h.1,hr];rfl,h.2⟩
 have Hci2:=Lib.hid hci2;clear hci2;obtain ⟨ia,ic,rfl,-⟩:=hI;obtain ⟨ra,rc,rfl,-⟩:=hR;obtain ⟨ca,cc,rfl,-⟩:=hC;have HE:=Lib.hid E;clear E
 have s0:wz.cell? ⟨w.heap.size,0,none⟩=some (.int .i64 n):=by rw[hwz];simp
 have s1:wz.cell? ⟨w.heap.size,1,none⟩=some (.slice ia init.length ic):=by rw[hwz];simp
 have s2:wz.cell? ⟨w.heap.size,2,none⟩=some (.slice ra regs.length rc):=by rw[hwz];simp
 have sb:w.heap.size<wz.heap.size:=by rw[hwz];simp
 have Hmz:=Lib.hid hmz;clear hmz
 have d1:decide ((init.length:Int)≤(n:Int))=true:=by simp;omega
 have d2:decide ((regs.length:Int)≤(codes.length:Int))=true:=by simp;omega
 go_enter Tryz.func10,Tryz.ntmps10
 go_wp2_with fail
 rw[←hwz];clear hwz;refine (pmNew_ok n codes.length h1 hn hc1 hc6 wz).mono ?_;rintro e w1 ⟨P,rfl,-,hm1,-⟩;have q0:=hm1.cell s0 (fun e=>e);have q1:=hm1.cell s1 (fun e=>e);have q2:=hm1.cell s2 (fun e=>e);have qb:=Nat.lt_of_lt_of_le sb hm1.size;have v1:=(HE.out.keep (Hmz.out.trans0 hm1)).v1
 have Hm1:=Lib.hid hm1;clear hm1 s0 s1 s2
 go_wp2_with fail
 refine (Hci1.out w1 Hm1.out).mono ?_;rintro e w' ⟨rfl,rfl⟩
 go_wp2_with fail
 refine (Hci2.out w1 Hm1.out).mono ?_;rintro e w' ⟨rfl,rfl⟩;go_wp2
 go_quiet (fail)
 go_wp2;go_ret2;exact ⟨rfl,by first|exact (Hmz.out.trans0 Hm1.out).drewN _|exact (Hmz.out.trans0 Hm1.out).drew|exact Hmz.out.trans0 Hm1.out⟩
theorem rows_fine{k:Nat}{ll:List (List Int)}(h:ll.all (rightB k)=true):RowsFine k ll:=fun l hl=>by
 have:=List.all_eq_true.1 h l hl;unfold rightB at this;rw[Bool.and_eq_true,decide_eq_true_eq,List.all_eq_true]at this;exact this
def ShapeR(n:Int)(init regs:List (List Int))(codes:List (List RI)):Prop:=
 1≤n∧n≤64∧1≤codes.length∧codes.length≤6∧(init.length:Int)≤n∧regs.length≤codes.length∧init.all (rightB 4)=true∧regs.all (rightB 8)=true
theorem pnew_any(n:Int)(iw rw_ cw:Value)(init regs:List (List Int))(codes:List (List RI))(cv:Nat→Value)(w:World){a:Nat→Addr}(E:ErrsM w a)(hI:RowsAt0 w iw init)(hR:RowsAt0 w rw_ regs)(hC:RCodesAt w cw codes cv)
  (lk:∀l∈codes,l.length≤maxLen) :
  Calls Tryz.prog 10 #[.agg #[.int .i64 n,iw,rw_],cw] w fun e w'=>
   (¬ShapeR n init regs codes∧e=.returned (.tuple #[.pointer none,errV a 1])∧Mod noF w w')∨(∃k:Nat,n=k∧ShapeR n init regs codes∧(NewBad w a codes e w'∨NewGood w k init regs codes e w')):=by
 by_cases h0:n<1∨64<n∨codes.length<1∨6<codes.length
 ·exact (pnew_mem n iw rw_ cw init regs codes cv w E hI hR hC h0).mono fun e w' h=>.inl ⟨fun s=>by have:=s.1;have:=s.2.1;have:=s.2.2.1;have:=s.2.2.2.1;omega,h⟩
 ·obtain ⟨k,rfl⟩:=Int.eq_ofNat_of_zero_le (show 0≤n by omega)
  by_cases h1:(k:Int)<init.length
  ·exact (pnew_len1 k iw rw_ cw init regs codes cv w E hI hR hC (by omega) (by omega) (by omega) (by omega) h1).mono fun e w' h=>.inl ⟨fun s=>by have:=s.2.2.2.2.1;omega,h⟩
  ·by_cases h2:codes.length<regs.length
   ·exact (pnew_len2 k iw rw_ cw init regs codes cv w E hI hR hC (by omega) (by omega) (by omega) (by omega) (by omega) h2).mono fun e w' h=>.inl ⟨fun s=>by have:=s.2.2.2.2.2.1;omega,h⟩
   ·cases h3:init.all (rightB 4)with
    |false=>exact (pnew_row1 k iw rw_ cw init regs codes cv w E hI hR hC (by omega) (by omega) (by omega) (by omega) (by omega) (by omega) h3).mono fun e w' h=>.inl ⟨fun s=>(by have:=s.2.2.2.2.2.2.1;rw[h3]at this;cases this),h⟩
    |true=>
     cases h4:regs.all (rightB 8)with
     |false=>exact (pnew_row2 k iw rw_ cw init regs codes cv w E hI hR hC (by omega) (by omega) (by omega) (by omega) (by omega) (by omega) h3 h4).mono fun e w' h=>.inl ⟨fun s=>(by have:=s.2.2.2.2.2.2.2;rw[h4]at this;cases this),h⟩
     |true=>exact (pnew_main k iw rw_ cw init regs codes cv w E hI hR hC lk (by omega) (by omega) (by omega) (by omega) (by omega) (by omega) h3 h4 (rows_fine h3) (rows_fine h4)).mono fun e w' h=>.inr ⟨k,rfl,⟨by omega,by omega,by omega,by omega,by omega,by omega,h3,h4⟩,h⟩
end
section
open Go.RowKit Qs Qh
variable {m m':M}{N N':Int}
theorem drain1_len(l:List Cell)(x:Wt):(drain1 l x).1.length=l.length:=by
 unfold drain1
 split
 ·simp[setWord]
 ·rfl
theorem drainAll_len:∀(q:List Wt) (l:List Cell),(drainAll l q).1.length=l.length
 |[],_=>rfl
 |x :: q,l=>by
  unfold drainAll;simp only;rw[drainAll_len q,drain1_len]
theorem fence_clen(m:M)(t:Nat):(m.fence t).cells.length=m.cells.length:=drainAll_len _ _
theorem force_clen(m:M):∀k,(m.force k).cells.length=m.cells.length
 |0=>rfl
 |k+1=>by show ((m.force k).fence k).cells.length=_;rw[fence_clen,force_clen m k]
theorem drain_clen(m:M)(t:Nat):(m.drain t).1.cells.length=m.cells.length:=by
 unfold M.drain
 split
 ·rfl
 ·exact drain1_len _ _
theorem exec_clen(m:M)(t:Nat)(x:Instr):(m.exec t x).cells.length=m.cells.length:=by
 have hf:=fence_clen m t;have hd:=drain_clen m t;have hfo:=force_clen m m.T.length;unfold M.exec;simp only
 split
 all_goals (repeat' split)
 all_goals first|rfl|simp[M.setReg,M.setPc,M.fault,M.jump,setWord,hf,hd,hfo]
theorem step_clen(m:M)(t:Nat):(m.step t).1.cells.length=m.cells.length:=by
 unfold M.step
 split
 ·rfl
 ·split
  ·rfl
  ·exact exec_clen _ _ _
theorem turn_clen(m:M)(n:Int):(m.turn n).1.cells.length=m.cells.length:=by
 unfold M.turn;simp only
 split
 ·exact step_clen _ _
 ·exact drain_clen _ _
theorem toNat_inj:∀ {l l':List Int},(∀v∈l,0≤v)→(∀v∈l',0≤v)→l.map Int.toNat=l'.map Int.toNat→l=l'
 |[],[],_,_,_=>rfl
 |[],y :: l',_,_,h=>by simp at h
 |x :: l,[],_,_,h=>by simp at h
 |x :: l,y :: l',hl,hl',h=>by
  simp only[List.map_cons,List.cons.injEq]at h;have h1:=hl x (by simp);have h2:=hl' y (by simp);rw[toNat_inj (fun v hv=>hl v (by simp[hv])) (fun v hv=>hl' v (by simp[hv])) h.2,show x=y by omega]
def ShC(c:Cell):Prop:=c.words.length=4∧(∀v∈c.words,0≤v)∧0≤c.times
theorem cell_told{c c':Cell}(h:ShC c)(h':ShC c'){r r':List Nat}(e:c.told++r=c'.told++r'):c.mask=c'.mask∧r=r':=by
 obtain ⟨w,t,b⟩:=c;obtain ⟨w',t',b'⟩:=c';obtain ⟨h1,h2,h3⟩:=h;obtain ⟨h1',h2',h3'⟩:=h';simp only at h1 h2 h3 h1' h2' h3';unfold Cell.told at e;cases b <;> cases b' <;> simp at e
 ·refine ⟨?_,e.2⟩;simp only[Cell.mask];rw[show t=t' by omega];simp
 ·obtain ⟨e1,e2⟩:=e
  have hl:(w.map Int.toNat).length=(w'.map Int.toNat).length:=by simp[h1,h1']
  obtain ⟨e3,e4⟩:=List.append_inj e2 hl;refine ⟨?_,e4⟩;rw[toNat_inj h2 h2' e3,show t=t' by omega]
theorem cells_told:∀ {l l':List Cell} {r r':List Nat},l.length=l'.length→(∀c∈l,ShC c)→(∀c∈l',ShC c)→l.flatMap Cell.told++r=l'.flatMap Cell.told++r'→Same l l'∧r=r'
 |[],[],_,_,_,_,_,e=>⟨rfl,by simpa using e⟩
 |[],y :: l',_,_,hl,_,_,_=>by simp at hl
 |x :: l,[],_,_,hl,_,_,_=>by simp at hl
 |x :: l,y :: l',r,r',hl,h,h',e=>by
  rw[List.flatMap_cons,List.flatMap_cons,List.append_assoc,List.append_assoc]at e;obtain ⟨e1,e2⟩:=cell_told (h x (by simp)) (h' y (by simp)) e;obtain ⟨e3,e4⟩:=cells_told (by simpa using hl) (fun c hc=>h c (by simp[hc])) (fun c hc=>h' c (by simp[hc])) e2;refine ⟨?_,e4⟩
  show (x :: l).map Cell.mask=(y :: l').map Cell.mask;rw[List.map_cons,List.map_cons,e1,show l.map Cell.mask=l'.map Cell.mask from e3]
def ShW(x:Wt):Prop:=0≤x.c∧0≤x.g∧0≤x.w∧0≤x.v
theorem wts_told:∀ {q q':List Wt} {r r':List Nat},q.length=q'.length→(∀x∈q,ShW x)→(∀x∈q',ShW x)→q.flatMap Wt.told++r=q'.flatMap Wt.told++r'→q=q'∧r=r'
 |[],[],_,_,_,_,_,e=>⟨rfl,by simpa using e⟩
 |[],y :: l',_,_,hl,_,_,_=>by simp at hl
 |x :: l,[],_,_,hl,_,_,_=>by simp at hl
 |⟨c,g,w,v⟩ :: l,⟨c',g',w',v'⟩ :: l',r,r',hl,h,h',e=>by
  rw[List.flatMap_cons,List.flatMap_cons,List.append_assoc,List.append_assoc]at e;simp only[Wt.told,List.cons_append,List.nil_append,List.cons.injEq]at e;obtain ⟨e1,e2,e3,e4,e5⟩:=e;obtain ⟨h1,h2,h3,h4⟩:=h _ (List.mem_cons_self ..);obtain ⟨k1,k2,k3,k4⟩:=h' _ (List.mem_cons_self ..)
  simp only at h1 h2 h3 h4 k1 k2 k3 k4;obtain ⟨f1,f2⟩:=wts_told (by simpa using hl) (fun c hc=>h c (by simp[hc])) (fun c hc=>h' c (by simp[hc])) e5;refine ⟨?_,f2⟩;rw[f1,show c=c' by omega,show g=g' by omega,show w=w' by omega,show v=v' by omega]
theorem rows_told:∀ {l l':List (List Wt)} {r r':List Nat},l.length=l'.length→(∀q∈l,∀x∈q,ShW x)→(∀q∈l',∀x∈q,ShW x)→l.flatMap rowTold++r=l'.flatMap rowTold++r'→l=l'∧r=r'
 |[],[],_,_,_,_,_,e=>⟨rfl,by simpa using e⟩
 |[],y :: l',_,_,hl,_,_,_=>by simp at hl
 |x :: l,[],_,_,hl,_,_,_=>by simp at hl
 |q :: l,q' :: l',r,r',hl,h,h',e=>by
  rw[List.flatMap_cons,List.flatMap_cons,List.append_assoc,List.append_assoc]at e;simp only[rowTold,List.cons_append,List.cons.injEq]at e;obtain ⟨e1,e2⟩:=wts_told e.1 (h q (by simp)) (h' q' (by simp)) e.2
  obtain ⟨f1,f2⟩:=rows_told (by simpa using hl) (fun c hc=>h c (by simp[hc])) (fun c hc=>h' c (by simp[hc])) e2;exact ⟨by rw[e1,f1],f2⟩
def ShT(h:Thr):Prop:=h.regs.length=8∧∀v∈h.regs,0≤v
theorem thrs_told:∀ {l l':List Thr},l.map (·.code)=l'.map (·.code)→(∀h∈l,ShT h)→(∀h∈l',ShT h)→l.flatMap Thr.told=l'.flatMap Thr.told→l=l'
 |[],[],_,_,_,_=>rfl
 |[],y :: l',hl,_,_,_=>by simp at hl
 |x :: l,[],hl,_,_,_=>by simp at hl
 |⟨c,g,p⟩ :: l,⟨c',g',p'⟩ :: l',hl,h,h',e=>by
  simp only[List.map_cons,List.cons.injEq]at hl;rw[List.flatMap_cons,List.flatMap_cons]at e;simp only[Thr.told,List.cons_append,List.cons.injEq]at e;obtain ⟨h1,h2⟩:=h _ (List.mem_cons_self ..);obtain ⟨k1,k2⟩:=h' _ (List.mem_cons_self ..);simp only at h1 h2 k1 k2
  obtain ⟨e1,e2⟩:=List.append_inj e.2 (by simp[h1,k1]);have f:=thrs_told hl.2 (fun c hc=>h c (by simp[hc])) (fun c hc=>h' c (by simp[hc])) e2;rw[f,toNat_inj h2 k2 e1,hl.1,e.1]
theorem word_nat'{v:Int}(h:isWord v=true):0≤v:=by
 simp[isWord]at h;omega
theorem told_sim(h:OkA N m)(h':OkA N' m')(hc:m.T.map (·.code)=m'.T.map (·.code))(hl:m.cells.length=m'.cells.length)(hf:m.faults=m'.faults)(e:m.told=m'.told):Sim 0 m m':=by
 have sc:∀ {m:M} {N:Int},OkA N m→∀c∈m.cells,ShC c:=fun h c hc=>by
  obtain ⟨i,hi⟩:=List.mem_iff_getElem?.1 hc;exact ⟨(h.1.words i c hi).1,fun v hv=>(word_nat' ((h.1.words i c hi).2 v hv)),(h.1.times i c hi).1⟩
 have sw:∀ {m:M} {N:Int},OkA N m→∀q∈m.waits,∀x∈q,ShW x:=fun h q hq x hx=>by
  obtain ⟨i,hi⟩:=List.mem_iff_getElem?.1 hq;obtain ⟨a1,a2,a3,a4,a5,a6,a7⟩:=h.1.wval i q hi x hx;exact ⟨a4,a6,a2,word_nat' a1⟩
 have st:∀ {m:M} {N:Int},OkA N m→∀t∈m.T,ShT t:=fun h t ht=>by
  obtain ⟨i,hi⟩:=List.mem_iff_getElem?.1 ht;exact ⟨(h.2.regs i t hi).1,fun v hv=>word_nat' ((h.2.regs i t hi).2 v hv)⟩
 unfold M.told at e;rw[List.append_assoc,List.append_assoc]at e;obtain ⟨e1,e2⟩:=cells_told hl (sc h) (sc h') e
 have hw:m.waits.length=m'.waits.length:=by rw[h.2.len,h'.2.len];simpa using congrArg List.length hc
 obtain ⟨e3,e4⟩:=rows_told hw (sw h) (sw h') e2;exact ⟨e1,e3,thrs_told hc (st h) (st h') e4,by omega⟩
end
end Go.Proofs.YtciaficoeajeaaaGreatDoor
