/- mach.touch: store, the buffer full. -/
import Derived.Test.YtciaficoeajeaaaGreatDoorWFm10
set_option linter.unusedVariables false
set_option linter.unusedSimpArgs false
set_option linter.unusedSectionVars false
set_option maxHeartbeats 4000000
set_option maxRecDepth 100000
namespace Go.Proofs.YtciaficoeajeaaaGreatDoor
open Go.RowKit Qs Qh
variable {w w1 w2 w' b0:World}{X:XB}{vs vs':List Value}{mv mv':Value}{m m':M}{N:Int}{a:Nat→Addr}
theorem ptouch_store_full(H:PX w X vs mv m N)(hN:N≤1000000000)(L:XLow b0 w a X vs mv){t:Nat}(ht:t<m.T.length){h:Thr}(hh:m.T[t]?=some h)(h8:h.regs.length=8){ra rb rc:Nat}{to:ByteArray}(ha:ra<8)(hb:rb<8)(hc:rc<4){c g:Int}(hn:m.names (h.regs.getD ra 0)=some (c,g)){x:Wt}{r:List Wt}(hq:m.waits[t]?=some (x :: r))(hql:r.length=7)(hxi:hereIn m.cells x.c x.g=true) :
  Calls Tryz.prog 47 #[.pointer (some ⟨X.bX,0,none⟩),.int .i64 t,insV 7 ra rb rc to] w fun e w'=>e=.returned (.tuple #[])∧∃vs',XUp w X vs mv m w' (putM ({m with cells:=(drain1 m.cells x).1,waits:=m.waits.set t r}:M) t ⟨c,g,rc,h.regs.getD rb 0⟩) vs' mv:=by
 obtain ⟨t0,-,-,-,-,t5⟩:=H.p.top_at;obtain ⟨_,t1,-⟩:=H.p.top_at;have r5:=H.p.reg_at hh ha;have wb:=H.regW hh ha;have hl5:=(H.p.thr_at hh).2.2;have ht6:=H.t6
 have ia0:(0:Int)≤(ra:Int):=by omega
 have ia8:(ra:Int)<8:=by omega
 have ib0:(0:Int)≤(rb:Int):=by omega
 have ib8:(rb:Int)<8:=by omega
 have Hreg:=Lib.hid (fun (W:World) (m1:M) (vs1:List Value) (P:PMach W X vs1 mv m1) (hT:m1.T=m.T)=>(show m1.T[t]?=some h by rw[hT];exact hh));generalize hvb:h.regs.getD ra 0=vb at *;have HH:=Lib.hid H;have HL:=Lib.hid L;have Hh:=Lib.hid hh;have Hn:=Lib.hid hn;have Hwb:=Lib.hid wb
 have Hvb:=Lib.hid hvb;clear H L hh hn wb hvb;unfold insV;simp only[opStr]
 go_enter Tryz.func47,Tryz.ntmps47
 go_wp2;obtain ⟨wn,hwn⟩:∃wn,wn=w.alloc (.cells #[.string ⟨#[115,116,111,114,101]⟩,.int .i64 ra,.int .i64 rb,.int .i64 rc,.string to] 73):=⟨_,rfl⟩
 have hmn:Mod noF w wn:=by rw[hwn];exact (Mod.refl noF w).alloc _
 have s1:wn.cell? ⟨w.heap.size,1,none⟩=some (.int .i64 ra):=by rw[hwn];simp
 have s2:wn.cell? ⟨w.heap.size,2,none⟩=some (.int .i64 rb):=by rw[hwn];simp
 have s3:wn.cell? ⟨w.heap.size,3,none⟩=some (.int .i64 rc):=by rw[hwn];simp
 have hxl:w.heap.size<wn.heap.size:=by rw[hwn];simp
 have hxw:¬XFoot X vs mv w.heap.size:=fun e=>by have:=HH.out.p.lt e;omega
 have p0:=hmn.cell t0 (fun e=>e);have p5:=hmn.cell r5 (fun e=>e);rw[←hwn];clear hwn
 have hcall:∀W,Mod noF wn W→Calls Tryz.prog 87 #[.pointer (some ⟨X.bX,0,none⟩),.int .i64 vb] W fun e w'=>e=.returned (.tuple #[.agg #[.int .i64 c,.int .i64 g],.bool true])∧Mod noF W w':=fun W hW=>
  pref_hit (HH.out.keep0 (hmn.trans0 hW)) hN (HL.out.keep (hmn.trans0 hW)) Hwb.out Hn.out
 have Hcall:=Lib.hid hcall;have Hmn:=Lib.hid hmn;have hS:∀W,Mod noF wn W→W.cell? ⟨w.heap.size,1,none⟩=some (.int .i64 ra)∧W.cell? ⟨X.bL,t*11+2+ra,none⟩=some (.int .i64 vb):=fun W hW=>⟨hW.cell s1 (fun e=>e),hW.cell p5 (fun e=>e)⟩;have hst:=hS wn (Mod.refl _ _);have HS:=Lib.hid hS;clear hcall hmn hS
 go_region_held3 (fun W=>W.cell? ⟨w.heap.size,1,none⟩=some (.int .i64 ra)∧W.cell? ⟨X.bL,t*11+2+ra,none⟩=some (.int .i64 vb)) (first|assumption|exact two_alloc (by assumption) _|exact two_drew (by assumption)|exact two_set2 (by assumption) (by omega) (by omega) _ _ _ _) (first|(go_at_call 87;refine (Hcall.out _ (by repeat (first|exact Mod.refl _ _|refine Mod.drew ?_|refine Mod.drewN ?_ _|refine Mod.alloc ?_ _))).mono ?_;rintro e w6 ⟨rfl,hm6⟩;have k2:=(HS.out w6 (Mod.trans0 (by repeat (first|exact Mod.refl _ _|refine Mod.drew ?_|refine Mod.drewN ?_ _|refine Mod.alloc ?_ _)) hm6));(try (have hb7:=hm6.heap (heap_alloc_new _ _) (fun e=>e);have hc70:=cell_of_heap hb7 0;have hc71:=cell_of_heap hb7 1;have hf70:=free_of_heap hb7 0;have hf71:=free_of_heap hb7 1;have hl7:=lt_of_block hb7;simp at hc70 hc71 hf70 hf71 hl7))))
 ·obtain ⟨wz,hwz⟩:∃wz,wz=(w6.alloc (.cells #[.int .i64 c,.int .i64 g] 101)):=⟨_,rfl⟩
  have hmz:Mod noF wn wz:=by rw[hwz];exact (((Mod.refl noF wn).drew).trans0 hm6).alloc _
  have hz:=Hmn.out.trans0 hmz;have hup:XUp w X vs mv m wz m vs mv:=XUp.quiet HH.out.p hz
  have y0:wz.cell? ⟨w6.heap.size,0,none⟩=some (.int .i64 c):=by rw[hwz];simp
  have y1:wz.cell? ⟨w6.heap.size,1,none⟩=some (.int .i64 g):=by rw[hwz];simp
  rw[←hwz]
  have hBw:w.heap.size≤w6.heap.size:=by have:=hm6.size;simp at this;omega
  have hBz:w6.heap.size<wz.heap.size:=by rw[hwz];simp
  have hwz0:w.heap.size<wz.heap.size:=by have:=hmz.size;omega
  have hbx:¬XFoot X vs mv w6.heap.size:=fun e=>by have:=HH.out.p.lt e;omega
  have v1:=hmz.cell s1 (fun e=>e);have v2:=hmz.cell s2 (fun e=>e);have v3:=hmz.cell s3 (fun e=>e);have u0:=hz.cell t0 (fun e=>e);have hin:=(names_ref Hn.out).2;have hwait:=pwaiting_ok (HH.out.keep0 hz).p.mem hq HH.out.om.waits;have hvw2:=HH.out.regW Hh.out hb
  obtain ⟨vb2,hvb2⟩:∃x,h.regs.getD rb 0=x:=⟨_,rfl⟩;rw[hvb2]at hvw2;have Hvw2:=Lib.hid hvw2
  have hx:isWord x.v=true∧0≤x.w∧x.w<4:=by
   obtain ⟨h1,h2,h3,-⟩:=HH.out.om.wval t _ hq x (by simp);exact ⟨h1,h2,h3⟩
  have hdr:=(HH.out.keep0 hz).p.drain_ok (HL.out.keep hz) (HH.out.cells hN) HH.out.om.waits hq (by omega) hx;rw[hxi]at hdr;have htl:t<m.waits.length:=(List.getElem?_eq_some_iff.1 hq).1
  have hq1:(m.waits.set t r)[t]?=some r:=by simp[htl]
  have hl1:(m.waits.set t r).length≤6:=by have:=HH.out.om.waits;simp;omega
  have hC1:=(HH.out.cells hN).drain1 x
  have hin1:hereIn (drain1 m.cells x).1 c g=true:=by have:=here_drained [x] m.cells c g;simp only[drainAll]at this;rw[this];exact hin
  have d8:decide ((8:Int)≤(((x :: r).length:Nat):Int))=true:=by simp;omega
  have d9:decide ((8:Int)≤(r.length:Int)+1)=true:=by simp;omega
  have Hwait:=Lib.hid hwait;have Hdr:=Lib.hid hdr;have Hq:=Lib.hid hq1;have Hl1:=Lib.hid hl1;have HC1:=Lib.hid hC1;have Hin:=Lib.hid hin1;have Hf0:=Lib.hid HH.out.ot.f0;clear hwait hq hin hup hvw2 hx hdr hq1 hl1 hC1 hin1 hxi HS Hcall hwz
  go_wp2_with fail
  refine Hwait.out.mono ?_;rintro e w9 ⟨rfl,rfl⟩
  go_wp2_with fail
  refine Hdr.out.mono ?_;rintro e w7 ⟨rfl,vs1,hU7⟩;have HU6:=Lib.hid hU7;simp only[if_true];clear hU7
  go_wp2_with fail
  refine (pfault_nil HU6.out.rep).mono ?_;rintro e w9 ⟨rfl,rfl⟩;have hU7:=HU6.out;have hbx1:¬XFoot X vs1 mv w6.heap.size:=fun e=>(hU7.foot _ e).elim hbx (fun e=>by omega);have hxw1:¬XFoot X vs1 mv w.heap.size:=fun e=>(hU7.foot _ e).elim hxw (fun e=>by omega);have f0:=hU7.rep.top_at.1
  have f1:=hU7.mod.cell y0 hbx;have f2:=hU7.mod.cell y1 hbx;have e3:=hU7.mod.cell v3 hxw;have e2:=hU7.mod.cell v2 hxw;have hT7:(({m with cells:=(drain1 m.cells x).1,waits:=m.waits.set t r}:M)).T[t]?=some h:=Hh.out;have g0:=hU7.rep.reg_at hT7 hb;rw[hvb2]at g0;have HU7:=Lib.hid hU7
  have HT7:=Lib.hid hT7
  have hS2:∀W,Mod noF w7 W→W.cell? ⟨X.bX,0,none⟩=some (.pointer (some ⟨X.P.bM,0,none⟩))∧W.cell? ⟨w6.heap.size,0,none⟩=some (.int .i64 c)∧W.cell? ⟨w6.heap.size,1,none⟩=some (.int .i64 g)∧W.cell? ⟨w.heap.size,3,none⟩=some (.int .i64 rc)∧W.cell? ⟨w.heap.size,2,none⟩=some (.int .i64 rb)∧W.cell? ⟨X.bL,t*11+2+rb,none⟩=some (.int .i64 vb2):=fun W hW=>⟨hW.cell f0 (fun e=>e),hW.cell f1 (fun e=>e),hW.cell f2 (fun e=>e),hW.cell e3 (fun e=>e),hW.cell e2 (fun e=>e),hW.cell g0 (fun e=>e)⟩
  have hcall2:∀W,Mod noF w7 W→Calls Tryz.prog 90 #[.pointer (some ⟨X.P.bM,0,none⟩),.int .i64 t,.agg #[.int .i64 c,.int .i64 g],.int .i64 rc,.int .i64 vb2] W fun e w'=>e=.returned .nilIface∧∃vs',XUp W X vs1 mv (({m with cells:=(drain1 m.cells x).1,waits:=m.waits.set t r}:M)) w' (putM (({m with cells:=(drain1 m.cells x).1,waits:=m.waits.set t r}:M)) t ⟨c,g,rc,vb2⟩) vs' mv∧w'.cell? ⟨X.bX,0,none⟩=some (.pointer (some ⟨X.P.bM,0,none⟩))∧w'.cell? ⟨w6.heap.size,0,none⟩=some (.int .i64 c)∧w'.cell? ⟨w6.heap.size,1,none⟩=some (.int .i64 g)∧w'.cell? ⟨w.heap.size,3,none⟩=some (.int .i64 rc)∧w'.cell? ⟨w.heap.size,2,none⟩=some (.int .i64 rb)∧w'.cell? ⟨X.bL,t*11+2+rb,none⟩=some (.int .i64 vb2):=fun W hW=>by
   have hq2:=hW;have:=(HU7.out.rep.keep0 hW).stored_at (((HL.out.keep hz).up HU7.out).keep hW) HC1.out Hl1.out Hq.out (by omega) hc Hin.out Hvw2.out;refine this.mono ?_;rintro e w' ⟨rfl,vs2,hU⟩
   exact ⟨rfl,vs2,hU,hU.rep.top_at.1,hU.mod.cell (hW.cell f1 (fun e=>e)) hbx1,hU.mod.cell (hW.cell f2 (fun e=>e)) hbx1,hU.mod.cell (hW.cell e3 (fun e=>e)) hxw1,hU.mod.cell (hW.cell e2 (fun e=>e)) hxw1,(by have:=hU.rep.reg_at (Hh.out:(putM (({m with cells:=(drain1 m.cells x).1,waits:=m.waits.set t r}:M)) t ⟨c,g,rc,vb2⟩).T[t]?=some h) hb;rw[hvb2]at this;exact this)⟩
  have hst2:=hS2 _ (Mod.refl _ _);have HS2:=Lib.hid hS2;have Hcall2:=Lib.hid hcall2;clear hS2 hcall2 hU7 hT7
  try go_wp2
  go_region_held3 (fun W=>W.cell? ⟨X.bX,0,none⟩=some (.pointer (some ⟨X.P.bM,0,none⟩))∧W.cell? ⟨w6.heap.size,0,none⟩=some (.int .i64 c)∧W.cell? ⟨w6.heap.size,1,none⟩=some (.int .i64 g)∧W.cell? ⟨w.heap.size,3,none⟩=some (.int .i64 rc)∧W.cell? ⟨w.heap.size,2,none⟩=some (.int .i64 rb)∧W.cell? ⟨X.bL,t*11+2+rb,none⟩=some (.int .i64 vb2)) ((first|assumption|(refine HS2.out _ ?_;first|assumption|exact Mod.refl _ _|exact (Mod.refl _ _).drew))) (first|(go_at_call 90;refine (Hcall2.out _ (by repeat (first|exact Mod.refl _ _|refine Mod.drew ?_|refine Mod.drewN ?_ _|refine Mod.alloc ?_ _))).mono ?_;rintro e w8 ⟨rfl,vs2,hU8,k8⟩)|(go_at_call 59;refine (pfault_nil hU8.rep).mono ?_;rintro e w9 ⟨rfl,rfl⟩))
  go_wp2;refine bodyPost_end (v:=.tuple #[]) (by simp[results,Tryz.results47,go_sem]) rfl ⟨rfl,?_⟩;refine ⟨vs2,?_⟩;rw[hvb2]
  exact (((XUp.quiet HH.out.p hz).trans HU7.out).trans ((XUp.quiet HU7.out.rep (by repeat (first|exact Mod.refl _ _|refine Mod.drew ?_|refine Mod.drewN ?_ _|refine Mod.alloc ?_ _))).trans hU8)).then0 (by repeat (first|exact Mod.refl _ _|refine Mod.drew ?_|refine Mod.drewN ?_ _|refine Mod.alloc ?_ _))
 ·obtain ⟨wz,hwz⟩:∃wz,wz=((w6.setCell ⟨wn.heap.size,0,none⟩ (.int .i64 c)).setCell ⟨wn.heap.size,1,none⟩ (.int .i64 g)):=⟨_,rfl⟩
  have hmz:Mod noF wn wz:=by rw[hwz];exact mod_ref2 ((((Mod.refl noF wn).alloc _).drew).trans0 hm6) (Nat.le_refl _) _ _
  have hz:=Hmn.out.trans0 hmz;have hup:XUp w X vs mv m wz m vs mv:=XUp.quiet HH.out.p hz
  have y0:wz.cell? ⟨wn.heap.size,0,none⟩=some (.int .i64 c):=by rw[hwz];exact (set2_at hc70 hc71 _ _).1
  have y1:wz.cell? ⟨wn.heap.size,1,none⟩=some (.int .i64 g):=by rw[hwz];exact (set2_at hc70 hc71 _ _).2
  rw[←hwz]
  have hBw:w.heap.size≤wn.heap.size:=by omega
  have hBz:wn.heap.size<wz.heap.size:=by rw[hwz];simp;omega
  have hwz0:w.heap.size<wz.heap.size:=by have:=hmz.size;omega
  have hbx:¬XFoot X vs mv wn.heap.size:=fun e=>by have:=HH.out.p.lt e;omega
  have v1:=hmz.cell s1 (fun e=>e);have v2:=hmz.cell s2 (fun e=>e);have v3:=hmz.cell s3 (fun e=>e);have u0:=hz.cell t0 (fun e=>e);have hin:=(names_ref Hn.out).2;have hwait:=pwaiting_ok (HH.out.keep0 hz).p.mem hq HH.out.om.waits;have hvw2:=HH.out.regW Hh.out hb
  obtain ⟨vb2,hvb2⟩:∃x,h.regs.getD rb 0=x:=⟨_,rfl⟩;rw[hvb2]at hvw2;have Hvw2:=Lib.hid hvw2
  have hx:isWord x.v=true∧0≤x.w∧x.w<4:=by
   obtain ⟨h1,h2,h3,-⟩:=HH.out.om.wval t _ hq x (by simp);exact ⟨h1,h2,h3⟩
  have hdr:=(HH.out.keep0 hz).p.drain_ok (HL.out.keep hz) (HH.out.cells hN) HH.out.om.waits hq (by omega) hx;rw[hxi]at hdr;have htl:t<m.waits.length:=(List.getElem?_eq_some_iff.1 hq).1
  have hq1:(m.waits.set t r)[t]?=some r:=by simp[htl]
  have hl1:(m.waits.set t r).length≤6:=by have:=HH.out.om.waits;simp;omega
  have hC1:=(HH.out.cells hN).drain1 x
  have hin1:hereIn (drain1 m.cells x).1 c g=true:=by have:=here_drained [x] m.cells c g;simp only[drainAll]at this;rw[this];exact hin
  have d8:decide ((8:Int)≤(((x :: r).length:Nat):Int))=true:=by simp;omega
  have d9:decide ((8:Int)≤(r.length:Int)+1)=true:=by simp;omega
  have Hwait:=Lib.hid hwait;have Hdr:=Lib.hid hdr;have Hq:=Lib.hid hq1;have Hl1:=Lib.hid hl1;have HC1:=Lib.hid hC1;have Hin:=Lib.hid hin1;have Hf0:=Lib.hid HH.out.ot.f0;clear hwait hq hin hup hvw2 hx hdr hq1 hl1 hC1 hin1 hxi HS Hcall hwz
  go_wp2_with fail
  refine Hwait.out.mono ?_;rintro e w9 ⟨rfl,rfl⟩
  go_wp2_with fail
  refine Hdr.out.mono ?_;rintro e w7 ⟨rfl,vs1,hU7⟩;have HU6:=Lib.hid hU7;simp only[if_true];clear hU7
  go_wp2_with fail
  refine (pfault_nil HU6.out.rep).mono ?_;rintro e w9 ⟨rfl,rfl⟩;have hU7:=HU6.out;have hbx1:¬XFoot X vs1 mv wn.heap.size:=fun e=>(hU7.foot _ e).elim hbx (fun e=>by omega);have hxw1:¬XFoot X vs1 mv w.heap.size:=fun e=>(hU7.foot _ e).elim hxw (fun e=>by omega);have f0:=hU7.rep.top_at.1
  have f1:=hU7.mod.cell y0 hbx;have f2:=hU7.mod.cell y1 hbx;have e3:=hU7.mod.cell v3 hxw;have e2:=hU7.mod.cell v2 hxw;have hT7:(({m with cells:=(drain1 m.cells x).1,waits:=m.waits.set t r}:M)).T[t]?=some h:=Hh.out;have g0:=hU7.rep.reg_at hT7 hb;rw[hvb2]at g0;have HU7:=Lib.hid hU7
  have HT7:=Lib.hid hT7
  have hS2:∀W,Mod noF w7 W→W.cell? ⟨X.bX,0,none⟩=some (.pointer (some ⟨X.P.bM,0,none⟩))∧W.cell? ⟨wn.heap.size,0,none⟩=some (.int .i64 c)∧W.cell? ⟨wn.heap.size,1,none⟩=some (.int .i64 g)∧W.cell? ⟨w.heap.size,3,none⟩=some (.int .i64 rc)∧W.cell? ⟨w.heap.size,2,none⟩=some (.int .i64 rb)∧W.cell? ⟨X.bL,t*11+2+rb,none⟩=some (.int .i64 vb2):=fun W hW=>⟨hW.cell f0 (fun e=>e),hW.cell f1 (fun e=>e),hW.cell f2 (fun e=>e),hW.cell e3 (fun e=>e),hW.cell e2 (fun e=>e),hW.cell g0 (fun e=>e)⟩
  have hcall2:∀W,Mod noF w7 W→Calls Tryz.prog 90 #[.pointer (some ⟨X.P.bM,0,none⟩),.int .i64 t,.agg #[.int .i64 c,.int .i64 g],.int .i64 rc,.int .i64 vb2] W fun e w'=>e=.returned .nilIface∧∃vs',XUp W X vs1 mv (({m with cells:=(drain1 m.cells x).1,waits:=m.waits.set t r}:M)) w' (putM (({m with cells:=(drain1 m.cells x).1,waits:=m.waits.set t r}:M)) t ⟨c,g,rc,vb2⟩) vs' mv∧w'.cell? ⟨X.bX,0,none⟩=some (.pointer (some ⟨X.P.bM,0,none⟩))∧w'.cell? ⟨wn.heap.size,0,none⟩=some (.int .i64 c)∧w'.cell? ⟨wn.heap.size,1,none⟩=some (.int .i64 g)∧w'.cell? ⟨w.heap.size,3,none⟩=some (.int .i64 rc)∧w'.cell? ⟨w.heap.size,2,none⟩=some (.int .i64 rb)∧w'.cell? ⟨X.bL,t*11+2+rb,none⟩=some (.int .i64 vb2):=fun W hW=>by
   have hq2:=hW;have:=(HU7.out.rep.keep0 hW).stored_at (((HL.out.keep hz).up HU7.out).keep hW) HC1.out Hl1.out Hq.out (by omega) hc Hin.out Hvw2.out;refine this.mono ?_;rintro e w' ⟨rfl,vs2,hU⟩
   exact ⟨rfl,vs2,hU,hU.rep.top_at.1,hU.mod.cell (hW.cell f1 (fun e=>e)) hbx1,hU.mod.cell (hW.cell f2 (fun e=>e)) hbx1,hU.mod.cell (hW.cell e3 (fun e=>e)) hxw1,hU.mod.cell (hW.cell e2 (fun e=>e)) hxw1,(by have:=hU.rep.reg_at (Hh.out:(putM (({m with cells:=(drain1 m.cells x).1,waits:=m.waits.set t r}:M)) t ⟨c,g,rc,vb2⟩).T[t]?=some h) hb;rw[hvb2]at this;exact this)⟩
  have hst2:=hS2 _ (Mod.refl _ _);have HS2:=Lib.hid hS2;have Hcall2:=Lib.hid hcall2;clear hS2 hcall2 hU7 hT7
  try go_wp2
  go_region_held3 (fun W=>W.cell? ⟨X.bX,0,none⟩=some (.pointer (some ⟨X.P.bM,0,none⟩))∧W.cell? ⟨wn.heap.size,0,none⟩=some (.int .i64 c)∧W.cell? ⟨wn.heap.size,1,none⟩=some (.int .i64 g)∧W.cell? ⟨w.heap.size,3,none⟩=some (.int .i64 rc)∧W.cell? ⟨w.heap.size,2,none⟩=some (.int .i64 rb)∧W.cell? ⟨X.bL,t*11+2+rb,none⟩=some (.int .i64 vb2)) ((first|assumption|(refine HS2.out _ ?_;first|assumption|exact Mod.refl _ _|exact (Mod.refl _ _).drew))) (first|(go_at_call 90;refine (Hcall2.out _ (by repeat (first|exact Mod.refl _ _|refine Mod.drew ?_|refine Mod.drewN ?_ _|refine Mod.alloc ?_ _))).mono ?_;rintro e w8 ⟨rfl,vs2,hU8,k8⟩)|(go_at_call 59;refine (pfault_nil hU8.rep).mono ?_;rintro e w9 ⟨rfl,rfl⟩))
  go_wp2;refine bodyPost_end (v:=.tuple #[]) (by simp[results,Tryz.results47,go_sem]) rfl ⟨rfl,?_⟩;refine ⟨vs2,?_⟩;rw[hvb2]
  exact (((XUp.quiet HH.out.p hz).trans HU7.out).trans ((XUp.quiet HU7.out.rep (by repeat (first|exact Mod.refl _ _|refine Mod.drew ?_|refine Mod.drewN ?_ _|refine Mod.alloc ?_ _))).trans hU8)).then0 (by repeat (first|exact Mod.refl _ _|refine Mod.drew ?_|refine Mod.drewN ?_ _|refine Mod.alloc ?_ _))
theorem ptouch_store_full_bad(H:PX w X vs mv m N)(hN:N≤1000000000)(L:XLow b0 w a X vs mv){t:Nat}(ht:t<m.T.length){h:Thr}(hh:m.T[t]?=some h)(h8:h.regs.length=8){ra rb rc:Nat}{to:ByteArray}(ha:ra<8)(hb:rb<8)(hc:rc<4){c g:Int}(hn:m.names (h.regs.getD ra 0)=some (c,g)){x:Wt}{r:List Wt}(hq:m.waits[t]?=some (x :: r))(hql:r.length=7)(hxi:hereIn m.cells x.c x.g=false) :
  Calls Tryz.prog 47 #[.pointer (some ⟨X.bX,0,none⟩),.int .i64 t,insV 7 ra rb rc to] w fun e w'=>e=.returned (.tuple #[])∧∃vs',XUp w X vs mv m w' (putM ({m with cells:=(drain1 m.cells x).1,waits:=m.waits.set t r}:M).fault t ⟨c,g,rc,h.regs.getD rb 0⟩) vs' mv:=by
 obtain ⟨t0,-,-,-,-,t5⟩:=H.p.top_at;obtain ⟨_,t1,-⟩:=H.p.top_at;have r5:=H.p.reg_at hh ha;have wb:=H.regW hh ha;have hl5:=(H.p.thr_at hh).2.2;have ht6:=H.t6
 have ia0:(0:Int)≤(ra:Int):=by omega
 have ia8:(ra:Int)<8:=by omega
 have ib0:(0:Int)≤(rb:Int):=by omega
 have ib8:(rb:Int)<8:=by omega
 have Hreg:=Lib.hid (fun (W:World) (m1:M) (vs1:List Value) (P:PMach W X vs1 mv m1) (hT:m1.T=m.T)=>(show m1.T[t]?=some h by rw[hT];exact hh));generalize hvb:h.regs.getD ra 0=vb at *;have HH:=Lib.hid H;have HL:=Lib.hid L;have Hh:=Lib.hid hh;have Hn:=Lib.hid hn;have Hwb:=Lib.hid wb
 have Hvb:=Lib.hid hvb;clear H L hh hn wb hvb;unfold insV;simp only[opStr]
 go_enter Tryz.func47,Tryz.ntmps47
 go_wp2;obtain ⟨wn,hwn⟩:∃wn,wn=w.alloc (.cells #[.string ⟨#[115,116,111,114,101]⟩,.int .i64 ra,.int .i64 rb,.int .i64 rc,.string to] 73):=⟨_,rfl⟩
 have hmn:Mod noF w wn:=by rw[hwn];exact (Mod.refl noF w).alloc _
 have s1:wn.cell? ⟨w.heap.size,1,none⟩=some (.int .i64 ra):=by rw[hwn];simp
 have s2:wn.cell? ⟨w.heap.size,2,none⟩=some (.int .i64 rb):=by rw[hwn];simp
 have s3:wn.cell? ⟨w.heap.size,3,none⟩=some (.int .i64 rc):=by rw[hwn];simp
 have hxl:w.heap.size<wn.heap.size:=by rw[hwn];simp
 have hxw:¬XFoot X vs mv w.heap.size:=fun e=>by have:=HH.out.p.lt e;omega
 have p0:=hmn.cell t0 (fun e=>e);have p5:=hmn.cell r5 (fun e=>e);rw[←hwn];clear hwn
 have hcall:∀W,Mod noF wn W→Calls Tryz.prog 87 #[.pointer (some ⟨X.bX,0,none⟩),.int .i64 vb] W fun e w'=>e=.returned (.tuple #[.agg #[.int .i64 c,.int .i64 g],.bool true])∧Mod noF W w':=fun W hW=>
  pref_hit (HH.out.keep0 (hmn.trans0 hW)) hN (HL.out.keep (hmn.trans0 hW)) Hwb.out Hn.out
 have Hcall:=Lib.hid hcall;have Hmn:=Lib.hid hmn;have hS:∀W,Mod noF wn W→W.cell? ⟨w.heap.size,1,none⟩=some (.int .i64 ra)∧W.cell? ⟨X.bL,t*11+2+ra,none⟩=some (.int .i64 vb):=fun W hW=>⟨hW.cell s1 (fun e=>e),hW.cell p5 (fun e=>e)⟩;have hst:=hS wn (Mod.refl _ _);have HS:=Lib.hid hS;clear hcall hmn hS
 go_region_held3 (fun W=>W.cell? ⟨w.heap.size,1,none⟩=some (.int .i64 ra)∧W.cell? ⟨X.bL,t*11+2+ra,none⟩=some (.int .i64 vb)) (first|assumption|exact two_alloc (by assumption) _|exact two_drew (by assumption)|exact two_set2 (by assumption) (by omega) (by omega) _ _ _ _) (first|(go_at_call 87;refine (Hcall.out _ (by repeat (first|exact Mod.refl _ _|refine Mod.drew ?_|refine Mod.drewN ?_ _|refine Mod.alloc ?_ _))).mono ?_;rintro e w6 ⟨rfl,hm6⟩;have k2:=(HS.out w6 (Mod.trans0 (by repeat (first|exact Mod.refl _ _|refine Mod.drew ?_|refine Mod.drewN ?_ _|refine Mod.alloc ?_ _)) hm6));(try (have hb7:=hm6.heap (heap_alloc_new _ _) (fun e=>e);have hc70:=cell_of_heap hb7 0;have hc71:=cell_of_heap hb7 1;have hf70:=free_of_heap hb7 0;have hf71:=free_of_heap hb7 1;have hl7:=lt_of_block hb7;simp at hc70 hc71 hf70 hf71 hl7))))
 ·obtain ⟨wz,hwz⟩:∃wz,wz=(w6.alloc (.cells #[.int .i64 c,.int .i64 g] 101)):=⟨_,rfl⟩
  have hmz:Mod noF wn wz:=by rw[hwz];exact (((Mod.refl noF wn).drew).trans0 hm6).alloc _
  have hz:=Hmn.out.trans0 hmz;have hup:XUp w X vs mv m wz m vs mv:=XUp.quiet HH.out.p hz
  have y0:wz.cell? ⟨w6.heap.size,0,none⟩=some (.int .i64 c):=by rw[hwz];simp
  have y1:wz.cell? ⟨w6.heap.size,1,none⟩=some (.int .i64 g):=by rw[hwz];simp
  rw[←hwz]
  have hBw:w.heap.size≤w6.heap.size:=by have:=hm6.size;simp at this;omega
  have hBz:w6.heap.size<wz.heap.size:=by rw[hwz];simp
  have hwz0:w.heap.size<wz.heap.size:=by have:=hmz.size;omega
  have hbx:¬XFoot X vs mv w6.heap.size:=fun e=>by have:=HH.out.p.lt e;omega
  have v1:=hmz.cell s1 (fun e=>e);have v2:=hmz.cell s2 (fun e=>e);have v3:=hmz.cell s3 (fun e=>e);have u0:=hz.cell t0 (fun e=>e);have hin:=(names_ref Hn.out).2;have hwait:=pwaiting_ok (HH.out.keep0 hz).p.mem hq HH.out.om.waits;have hvw2:=HH.out.regW Hh.out hb
  obtain ⟨vb2,hvb2⟩:∃x,h.regs.getD rb 0=x:=⟨_,rfl⟩;rw[hvb2]at hvw2;have Hvw2:=Lib.hid hvw2
  have hx:isWord x.v=true∧0≤x.w∧x.w<4:=by
   obtain ⟨h1,h2,h3,-⟩:=HH.out.om.wval t _ hq x (by simp);exact ⟨h1,h2,h3⟩
  have hdr:=(HH.out.keep0 hz).p.drain_ok (HL.out.keep hz) (HH.out.cells hN) HH.out.om.waits hq (by omega) hx;rw[hxi]at hdr;have htl:t<m.waits.length:=(List.getElem?_eq_some_iff.1 hq).1
  have hq1:(m.waits.set t r)[t]?=some r:=by simp[htl]
  have hl1:(m.waits.set t r).length≤6:=by have:=HH.out.om.waits;simp;omega
  have hC1:=(HH.out.cells hN).drain1 x
  have hin1:hereIn (drain1 m.cells x).1 c g=true:=by have:=here_drained [x] m.cells c g;simp only[drainAll]at this;rw[this];exact hin
  have d8:decide ((8:Int)≤(((x :: r).length:Nat):Int))=true:=by simp;omega
  have d9:decide ((8:Int)≤(r.length:Int)+1)=true:=by simp;omega
  have Hwait:=Lib.hid hwait;have Hdr:=Lib.hid hdr;have Hq:=Lib.hid hq1;have Hl1:=Lib.hid hl1;have HC1:=Lib.hid hC1;have Hin:=Lib.hid hin1;have Hf0:=Lib.hid HH.out.ot.f0;clear hwait hq hin hup hvw2 hx hdr hq1 hl1 hC1 hin1 hxi HS Hcall hwz
  go_wp2_with fail
  refine Hwait.out.mono ?_;rintro e w9 ⟨rfl,rfl⟩
  go_wp2_with fail
  refine Hdr.out.mono ?_;rintro e w7 ⟨rfl,vs1,hU7⟩;have hfs:=pfault_some hU7.rep Hf0.out.1 (by show m.faults≤_;have:=Hf0.out.2;omega) 241 (.pointer (some (a 6)));have Hfs:=Lib.hid hfs;have HU6:=Lib.hid hU7;clear hfs hU7;simp only[Bool.false_eq_true,if_false];unfold errV
  go_wp2_with fail
  refine Hfs.out.mono ?_;rintro e w7' ⟨rfl,hw7⟩;have hU7:=HU6.out.trans (HU6.out.rep.setFaults (m.faults+1));rw[show ({m with cells:=(drain1 m.cells x).1,waits:=m.waits.set t r}:M).faults=m.faults from rfl]at hw7;rw[←hw7]at hU7;clear hw7
  have hbx1:¬XFoot X vs1 mv w6.heap.size:=fun e=>(hU7.foot _ e).elim hbx (fun e=>by omega);have hxw1:¬XFoot X vs1 mv w.heap.size:=fun e=>(hU7.foot _ e).elim hxw (fun e=>by omega);have f0:=hU7.rep.top_at.1;have f1:=hU7.mod.cell y0 hbx;have f2:=hU7.mod.cell y1 hbx;have e3:=hU7.mod.cell v3 hxw
  have e2:=hU7.mod.cell v2 hxw;have hT7:(({m with cells:=(drain1 m.cells x).1,waits:=m.waits.set t r}:M).fault).T[t]?=some h:=Hh.out;have g0:=hU7.rep.reg_at hT7 hb;rw[hvb2]at g0;have HU7:=Lib.hid hU7;have HT7:=Lib.hid hT7
  have hS2:∀W,Mod noF w7' W→W.cell? ⟨X.bX,0,none⟩=some (.pointer (some ⟨X.P.bM,0,none⟩))∧W.cell? ⟨w6.heap.size,0,none⟩=some (.int .i64 c)∧W.cell? ⟨w6.heap.size,1,none⟩=some (.int .i64 g)∧W.cell? ⟨w.heap.size,3,none⟩=some (.int .i64 rc)∧W.cell? ⟨w.heap.size,2,none⟩=some (.int .i64 rb)∧W.cell? ⟨X.bL,t*11+2+rb,none⟩=some (.int .i64 vb2):=fun W hW=>⟨hW.cell f0 (fun e=>e),hW.cell f1 (fun e=>e),hW.cell f2 (fun e=>e),hW.cell e3 (fun e=>e),hW.cell e2 (fun e=>e),hW.cell g0 (fun e=>e)⟩
  have hcall2:∀W,Mod noF w7' W→Calls Tryz.prog 90 #[.pointer (some ⟨X.P.bM,0,none⟩),.int .i64 t,.agg #[.int .i64 c,.int .i64 g],.int .i64 rc,.int .i64 vb2] W fun e w'=>e=.returned .nilIface∧∃vs',XUp W X vs1 mv (({m with cells:=(drain1 m.cells x).1,waits:=m.waits.set t r}:M).fault) w' (putM (({m with cells:=(drain1 m.cells x).1,waits:=m.waits.set t r}:M).fault) t ⟨c,g,rc,vb2⟩) vs' mv∧w'.cell? ⟨X.bX,0,none⟩=some (.pointer (some ⟨X.P.bM,0,none⟩))∧w'.cell? ⟨w6.heap.size,0,none⟩=some (.int .i64 c)∧w'.cell? ⟨w6.heap.size,1,none⟩=some (.int .i64 g)∧w'.cell? ⟨w.heap.size,3,none⟩=some (.int .i64 rc)∧w'.cell? ⟨w.heap.size,2,none⟩=some (.int .i64 rb)∧w'.cell? ⟨X.bL,t*11+2+rb,none⟩=some (.int .i64 vb2):=fun W hW=>by
   have hq2:=hW;have:=(HU7.out.rep.keep0 hW).stored_at (((HL.out.keep hz).up HU7.out).keep hW) HC1.out Hl1.out Hq.out (by omega) hc Hin.out Hvw2.out;refine this.mono ?_;rintro e w' ⟨rfl,vs2,hU⟩
   exact ⟨rfl,vs2,hU,hU.rep.top_at.1,hU.mod.cell (hW.cell f1 (fun e=>e)) hbx1,hU.mod.cell (hW.cell f2 (fun e=>e)) hbx1,hU.mod.cell (hW.cell e3 (fun e=>e)) hxw1,hU.mod.cell (hW.cell e2 (fun e=>e)) hxw1,(by have:=hU.rep.reg_at (Hh.out:(putM (({m with cells:=(drain1 m.cells x).1,waits:=m.waits.set t r}:M).fault) t ⟨c,g,rc,vb2⟩).T[t]?=some h) hb;rw[hvb2]at this;exact this)⟩
  have hst2:=hS2 _ (Mod.refl _ _);have HS2:=Lib.hid hS2;have Hcall2:=Lib.hid hcall2;clear hS2 hcall2 hU7 hT7
  try go_wp2
  go_region_held3 (fun W=>W.cell? ⟨X.bX,0,none⟩=some (.pointer (some ⟨X.P.bM,0,none⟩))∧W.cell? ⟨w6.heap.size,0,none⟩=some (.int .i64 c)∧W.cell? ⟨w6.heap.size,1,none⟩=some (.int .i64 g)∧W.cell? ⟨w.heap.size,3,none⟩=some (.int .i64 rc)∧W.cell? ⟨w.heap.size,2,none⟩=some (.int .i64 rb)∧W.cell? ⟨X.bL,t*11+2+rb,none⟩=some (.int .i64 vb2)) ((first|assumption|(refine HS2.out _ ?_;first|assumption|exact Mod.refl _ _|exact (Mod.refl _ _).drew))) (first|(go_at_call 90;refine (Hcall2.out _ (by repeat (first|exact Mod.refl _ _|refine Mod.drew ?_|refine Mod.drewN ?_ _|refine Mod.alloc ?_ _))).mono ?_;rintro e w8 ⟨rfl,vs2,hU8,k8⟩)|(go_at_call 59;refine (pfault_nil hU8.rep).mono ?_;rintro e w9 ⟨rfl,rfl⟩))
  go_wp2;refine bodyPost_end (v:=.tuple #[]) (by simp[results,Tryz.results47,go_sem]) rfl ⟨rfl,?_⟩;refine ⟨vs2,?_⟩;rw[hvb2]
  exact (((XUp.quiet HH.out.p hz).trans HU7.out).trans ((XUp.quiet HU7.out.rep (by repeat (first|exact Mod.refl _ _|refine Mod.drew ?_|refine Mod.drewN ?_ _|refine Mod.alloc ?_ _))).trans hU8)).then0 (by repeat (first|exact Mod.refl _ _|refine Mod.drew ?_|refine Mod.drewN ?_ _|refine Mod.alloc ?_ _))
 ·obtain ⟨wz,hwz⟩:∃wz,wz=((w6.setCell ⟨wn.heap.size,0,none⟩ (.int .i64 c)).setCell ⟨wn.heap.size,1,none⟩ (.int .i64 g)):=⟨_,rfl⟩
  have hmz:Mod noF wn wz:=by rw[hwz];exact mod_ref2 ((((Mod.refl noF wn).alloc _).drew).trans0 hm6) (Nat.le_refl _) _ _
  have hz:=Hmn.out.trans0 hmz;have hup:XUp w X vs mv m wz m vs mv:=XUp.quiet HH.out.p hz
  have y0:wz.cell? ⟨wn.heap.size,0,none⟩=some (.int .i64 c):=by rw[hwz];exact (set2_at hc70 hc71 _ _).1
  have y1:wz.cell? ⟨wn.heap.size,1,none⟩=some (.int .i64 g):=by rw[hwz];exact (set2_at hc70 hc71 _ _).2
  rw[←hwz]
  have hBw:w.heap.size≤wn.heap.size:=by omega
  have hBz:wn.heap.size<wz.heap.size:=by rw[hwz];simp;omega
  have hwz0:w.heap.size<wz.heap.size:=by have:=hmz.size;omega
  have hbx:¬XFoot X vs mv wn.heap.size:=fun e=>by have:=HH.out.p.lt e;omega
  have v1:=hmz.cell s1 (fun e=>e);have v2:=hmz.cell s2 (fun e=>e);have v3:=hmz.cell s3 (fun e=>e);have u0:=hz.cell t0 (fun e=>e);have hin:=(names_ref Hn.out).2;have hwait:=pwaiting_ok (HH.out.keep0 hz).p.mem hq HH.out.om.waits;have hvw2:=HH.out.regW Hh.out hb
  obtain ⟨vb2,hvb2⟩:∃x,h.regs.getD rb 0=x:=⟨_,rfl⟩;rw[hvb2]at hvw2;have Hvw2:=Lib.hid hvw2
  have hx:isWord x.v=true∧0≤x.w∧x.w<4:=by
   obtain ⟨h1,h2,h3,-⟩:=HH.out.om.wval t _ hq x (by simp);exact ⟨h1,h2,h3⟩
  have hdr:=(HH.out.keep0 hz).p.drain_ok (HL.out.keep hz) (HH.out.cells hN) HH.out.om.waits hq (by omega) hx;rw[hxi]at hdr;have htl:t<m.waits.length:=(List.getElem?_eq_some_iff.1 hq).1
  have hq1:(m.waits.set t r)[t]?=some r:=by simp[htl]
  have hl1:(m.waits.set t r).length≤6:=by have:=HH.out.om.waits;simp;omega
  have hC1:=(HH.out.cells hN).drain1 x
  have hin1:hereIn (drain1 m.cells x).1 c g=true:=by have:=here_drained [x] m.cells c g;simp only[drainAll]at this;rw[this];exact hin
  have d8:decide ((8:Int)≤(((x :: r).length:Nat):Int))=true:=by simp;omega
  have d9:decide ((8:Int)≤(r.length:Int)+1)=true:=by simp;omega
  have Hwait:=Lib.hid hwait;have Hdr:=Lib.hid hdr;have Hq:=Lib.hid hq1;have Hl1:=Lib.hid hl1;have HC1:=Lib.hid hC1;have Hin:=Lib.hid hin1;have Hf0:=Lib.hid HH.out.ot.f0;clear hwait hq hin hup hvw2 hx hdr hq1 hl1 hC1 hin1 hxi HS Hcall hwz
  go_wp2_with fail
  refine Hwait.out.mono ?_;rintro e w9 ⟨rfl,rfl⟩
  go_wp2_with fail
  refine Hdr.out.mono ?_;rintro e w7 ⟨rfl,vs1,hU7⟩;have hfs:=pfault_some hU7.rep Hf0.out.1 (by show m.faults≤_;have:=Hf0.out.2;omega) 241 (.pointer (some (a 6)));have Hfs:=Lib.hid hfs;have HU6:=Lib.hid hU7;clear hfs hU7;simp only[Bool.false_eq_true,if_false];unfold errV
  go_wp2_with fail
  refine Hfs.out.mono ?_;rintro e w7' ⟨rfl,hw7⟩;have hU7:=HU6.out.trans (HU6.out.rep.setFaults (m.faults+1));rw[show ({m with cells:=(drain1 m.cells x).1,waits:=m.waits.set t r}:M).faults=m.faults from rfl]at hw7;rw[←hw7]at hU7;clear hw7
  have hbx1:¬XFoot X vs1 mv wn.heap.size:=fun e=>(hU7.foot _ e).elim hbx (fun e=>by omega);have hxw1:¬XFoot X vs1 mv w.heap.size:=fun e=>(hU7.foot _ e).elim hxw (fun e=>by omega);have f0:=hU7.rep.top_at.1;have f1:=hU7.mod.cell y0 hbx;have f2:=hU7.mod.cell y1 hbx;have e3:=hU7.mod.cell v3 hxw
  have e2:=hU7.mod.cell v2 hxw;have hT7:(({m with cells:=(drain1 m.cells x).1,waits:=m.waits.set t r}:M).fault).T[t]?=some h:=Hh.out;have g0:=hU7.rep.reg_at hT7 hb;rw[hvb2]at g0;have HU7:=Lib.hid hU7;have HT7:=Lib.hid hT7
  have hS2:∀W,Mod noF w7' W→W.cell? ⟨X.bX,0,none⟩=some (.pointer (some ⟨X.P.bM,0,none⟩))∧W.cell? ⟨wn.heap.size,0,none⟩=some (.int .i64 c)∧W.cell? ⟨wn.heap.size,1,none⟩=some (.int .i64 g)∧W.cell? ⟨w.heap.size,3,none⟩=some (.int .i64 rc)∧W.cell? ⟨w.heap.size,2,none⟩=some (.int .i64 rb)∧W.cell? ⟨X.bL,t*11+2+rb,none⟩=some (.int .i64 vb2):=fun W hW=>⟨hW.cell f0 (fun e=>e),hW.cell f1 (fun e=>e),hW.cell f2 (fun e=>e),hW.cell e3 (fun e=>e),hW.cell e2 (fun e=>e),hW.cell g0 (fun e=>e)⟩
  have hcall2:∀W,Mod noF w7' W→Calls Tryz.prog 90 #[.pointer (some ⟨X.P.bM,0,none⟩),.int .i64 t,.agg #[.int .i64 c,.int .i64 g],.int .i64 rc,.int .i64 vb2] W fun e w'=>e=.returned .nilIface∧∃vs',XUp W X vs1 mv (({m with cells:=(drain1 m.cells x).1,waits:=m.waits.set t r}:M).fault) w' (putM (({m with cells:=(drain1 m.cells x).1,waits:=m.waits.set t r}:M).fault) t ⟨c,g,rc,vb2⟩) vs' mv∧w'.cell? ⟨X.bX,0,none⟩=some (.pointer (some ⟨X.P.bM,0,none⟩))∧w'.cell? ⟨wn.heap.size,0,none⟩=some (.int .i64 c)∧w'.cell? ⟨wn.heap.size,1,none⟩=some (.int .i64 g)∧w'.cell? ⟨w.heap.size,3,none⟩=some (.int .i64 rc)∧w'.cell? ⟨w.heap.size,2,none⟩=some (.int .i64 rb)∧w'.cell? ⟨X.bL,t*11+2+rb,none⟩=some (.int .i64 vb2):=fun W hW=>by
   have hq2:=hW;have:=(HU7.out.rep.keep0 hW).stored_at (((HL.out.keep hz).up HU7.out).keep hW) HC1.out Hl1.out Hq.out (by omega) hc Hin.out Hvw2.out;refine this.mono ?_;rintro e w' ⟨rfl,vs2,hU⟩
   exact ⟨rfl,vs2,hU,hU.rep.top_at.1,hU.mod.cell (hW.cell f1 (fun e=>e)) hbx1,hU.mod.cell (hW.cell f2 (fun e=>e)) hbx1,hU.mod.cell (hW.cell e3 (fun e=>e)) hxw1,hU.mod.cell (hW.cell e2 (fun e=>e)) hxw1,(by have:=hU.rep.reg_at (Hh.out:(putM (({m with cells:=(drain1 m.cells x).1,waits:=m.waits.set t r}:M).fault) t ⟨c,g,rc,vb2⟩).T[t]?=some h) hb;rw[hvb2]at this;exact this)⟩
  have hst2:=hS2 _ (Mod.refl _ _);have HS2:=Lib.hid hS2;have Hcall2:=Lib.hid hcall2;clear hS2 hcall2 hU7 hT7
  try go_wp2
  go_region_held3 (fun W=>W.cell? ⟨X.bX,0,none⟩=some (.pointer (some ⟨X.P.bM,0,none⟩))∧W.cell? ⟨wn.heap.size,0,none⟩=some (.int .i64 c)∧W.cell? ⟨wn.heap.size,1,none⟩=some (.int .i64 g)∧W.cell? ⟨w.heap.size,3,none⟩=some (.int .i64 rc)∧W.cell? ⟨w.heap.size,2,none⟩=some (.int .i64 rb)∧W.cell? ⟨X.bL,t*11+2+rb,none⟩=some (.int .i64 vb2)) ((first|assumption|(refine HS2.out _ ?_;first|assumption|exact Mod.refl _ _|exact (Mod.refl _ _).drew))) (first|(go_at_call 90;refine (Hcall2.out _ (by repeat (first|exact Mod.refl _ _|refine Mod.drew ?_|refine Mod.drewN ?_ _|refine Mod.alloc ?_ _))).mono ?_;rintro e w8 ⟨rfl,vs2,hU8,k8⟩)|(go_at_call 59;refine (pfault_nil hU8.rep).mono ?_;rintro e w9 ⟨rfl,rfl⟩))
  go_wp2;refine bodyPost_end (v:=.tuple #[]) (by simp[results,Tryz.results47,go_sem]) rfl ⟨rfl,?_⟩;refine ⟨vs2,?_⟩;rw[hvb2]
  exact (((XUp.quiet HH.out.p hz).trans HU7.out).trans ((XUp.quiet HU7.out.rep (by repeat (first|exact Mod.refl _ _|refine Mod.drew ?_|refine Mod.drewN ?_ _|refine Mod.alloc ?_ _))).trans hU8)).then0 (by repeat (first|exact Mod.refl _ _|refine Mod.drew ?_|refine Mod.drewN ?_ _|refine Mod.alloc ?_ _))
end Go.Proofs.YtciaficoeajeaaaGreatDoor
