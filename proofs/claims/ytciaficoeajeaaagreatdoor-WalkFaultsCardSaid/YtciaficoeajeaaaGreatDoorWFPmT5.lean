/- mach.touch: cas. -/
import Derived.Test.YtciaficoeajeaaaGreatDoorWFm10
set_option linter.unusedVariables false
set_option linter.unusedSimpArgs false
set_option linter.unusedSectionVars false
set_option maxHeartbeats 4000000
set_option maxRecDepth 100000
namespace Go.Proofs.YtciaficoeajeaaaGreatDoor
open Go.RowKit Qs Qh
variable {w w1 w2 w' b0:World}{X:XB}{vs vs':List Value}{mv mv':Value}{m m':M}{N:Int}{a:Nat→Addr}
theorem ptouch_cas_ok(H:PX w X vs mv m N)(hN:N≤1000000000)(L:XLow b0 w a X vs mv){t:Nat}(ht:t<m.T.length){h:Thr}(hh:m.T[t]?=some h)(h8:h.regs.length=8){ra rb rc:Nat}{to:ByteArray}(ha:ra<8)(hb7:rb<7)(hc:rc<4){c g:Int}(hn:m.names (h.regs.getD ra 0)=some (c,g)) :
  Calls Tryz.prog 47 #[.pointer (some ⟨X.bX,0,none⟩),.int .i64 t,insV 9 ra rb rc to] w fun e w'=>e=.returned (.tuple #[])∧∃vs',XUp w X vs mv m w' (casM (m.fence t) t rb c.toNat rc (h.regs.getD rb 0) (h.regs.getD (rb+1) 0)) vs' mv:=by
 obtain ⟨t0,-,-,-,-,t5⟩:=H.p.top_at;obtain ⟨_,t1,-⟩:=H.p.top_at;have r5:=H.p.reg_at hh ha;have wb:=H.regW hh ha;have hl5:=(H.p.thr_at hh).2.2;have ht6:=H.t6
 have ia0:(0:Int)≤(ra:Int):=by omega
 have ia8:(ra:Int)<8:=by omega
 have ib0:(0:Int)≤(rb:Int):=by omega
 have ib8:(rb:Int)<8:=by omega
 have ib1:IntKind.i64.wrap ((rb:Int)+1)=(rb:Int)+1:=wrap_small _ (by omega) (by omega)
 have ib2:(rb:Int)+1<8:=by omega
 have ib3:(0:Int)≤(rb:Int)+1:=by omega
 have ib4:((rb:Int)+1).toNat=rb+1:=by omega
 have hb:rb<8:=by omega
 have Hreg:=Lib.hid (fun (W:World) (m1:M) (vs1:List Value) (P:PMach W X vs1 mv m1) (hT:m1.T=m.T)=>(show m1.T[t]?=some h by rw[hT];exact hh));generalize hvb:h.regs.getD ra 0=vb at *;have HH:=Lib.hid H;have HL:=Lib.hid L;have Hh:=Lib.hid hh;have Hn:=Lib.hid hn;have Hwb:=Lib.hid wb
 have Hvb:=Lib.hid hvb;clear H L hh hn wb hvb;unfold insV;simp only[opStr]
 go_enter Tryz.func47,Tryz.ntmps47
 go_wp2;obtain ⟨wn,hwn⟩:∃wn,wn=w.alloc (.cells #[.string ⟨#[99,97,115]⟩,.int .i64 ra,.int .i64 rb,.int .i64 rc,.string to] 73):=⟨_,rfl⟩
 have hmn:Mod noF w wn:=by rw[hwn];exact (Mod.refl noF w).alloc _
 have s1:wn.cell? ⟨w.heap.size,1,none⟩=some (.int .i64 ra):=by rw[hwn];simp
 have s2:wn.cell? ⟨w.heap.size,2,none⟩=some (.int .i64 rb):=by rw[hwn];simp
 have s3:wn.cell? ⟨w.heap.size,3,none⟩=some (.int .i64 rc):=by rw[hwn];simp
 have hxl:w.heap.size<wn.heap.size:=by rw[hwn];simp
 have hxw:¬XFoot X vs mv w.heap.size:=fun e=>by have:=HH.out.p.lt e;omega
 have p0:=hmn.cell t0 (fun e=>e);have p5:=hmn.cell r5 (fun e=>e);rw[←hwn];clear hwn
 have hcall:∀W,Mod noF wn W→Calls Tryz.prog 87 #[.pointer (some ⟨X.bX,0,none⟩),.int .i64 vb] W fun e w'=>e=.returned (.tuple #[.agg #[.int .i64 c,.int .i64 g],.bool true])∧Mod noF W w':=fun W hW=>
  pref_hit (HH.out.keep0 (hmn.trans0 hW)) hN (HL.out.keep (hmn.trans0 hW)) Hwb.out Hn.out
 have Hcall:=Lib.hid hcall;have Hmn:=Lib.hid hmn;have hS:∀W,Mod noF wn W→W.cell? ⟨w.heap.size,1,none⟩=some (.int .i64 ra)∧W.cell? ⟨X.bL,t*11+2+ra,none⟩=some (.int .i64 vb):=fun W hW=>⟨hW.cell s1 (fun e=>e),hW.cell p5 (fun e=>e)⟩;have hst:=hS wn (Mod.refl _ _);have HS:=Lib.hid hS;clear hcall hmn hS
 go_region_held3 (fun W=>W.cell? ⟨w.heap.size,1,none⟩=some (.int .i64 ra)∧W.cell? ⟨X.bL,t*11+2+ra,none⟩=some (.int .i64 vb)) (first|assumption|exact two_alloc (by assumption) _|exact two_drew (by assumption)|exact two_set2 (by assumption) (by omega) (by omega) _ _ _ _) (first|(go_at_call 87;refine (Hcall.out _ (by repeat (first|exact Mod.refl _ _|refine Mod.drew ?_|refine Mod.drewN ?_ _|refine Mod.alloc ?_ _))).mono ?_;rintro e w6 ⟨rfl,hm6⟩;have k2:=(HS.out w6 (Mod.trans0 (by repeat (first|exact Mod.refl _ _|refine Mod.drew ?_|refine Mod.drewN ?_ _|refine Mod.alloc ?_ _)) hm6));(try (have hb7:=hm6.heap (heap_alloc_new _ _) (fun e=>e);have hc70:=cell_of_heap hb7 0;have hc71:=cell_of_heap hb7 1;have hf70:=free_of_heap hb7 0;have hf71:=free_of_heap hb7 1;have hl7:=lt_of_block hb7;simp at hc70 hc71 hf70 hf71 hl7))))
 ·obtain ⟨wz,hwz⟩:∃wz,wz=(w6.alloc (.cells #[.int .i64 c,.int .i64 g] 101)):=⟨_,rfl⟩
  have hmz:Mod noF wn wz:=by rw[hwz];exact (((Mod.refl noF wn).drew).trans0 hm6).alloc _
  have hz:=Hmn.out.trans0 hmz;have hup:XUp w X vs mv m wz m vs mv:=XUp.quiet HH.out.p hz
  have y0:wz.cell? ⟨w6.heap.size,0,none⟩=some (.int .i64 c):=by rw[hwz];simp
  have y1:wz.cell? ⟨w6.heap.size,1,none⟩=some (.int .i64 g):=by rw[hwz];simp
  rw[←hwz]
  have hBw:w.heap.size≤w6.heap.size:=by have:=hm6.size;simp at this;omega
  have hBz:w6.heap.size<wz.heap.size:=by rw[hwz];simp
  have hwz0:w.heap.size<wz.heap.size:=by have:=hmz.size;omega
  have hbx:¬XFoot X vs mv w6.heap.size:=fun e=>by have:=HH.out.p.lt e;omega
  have v1:=hmz.cell s1 (fun e=>e);have v2:=hmz.cell s2 (fun e=>e);have v3:=hmz.cell s3 (fun e=>e);have u0:=hz.cell t0 (fun e=>e);obtain ⟨q,hq⟩:∃q,m.waits[t]?=some q:=⟨_,List.getElem?_eq_getElem (by rw[HH.out.ot.len];exact ht)⟩;have hin:=(names_ref Hn.out).2
  have hfence:=pmfence_any (HH.out.keep0 hz) hN (HL.out.keep hz) ht;have Hfence:=Lib.hid hfence;obtain ⟨hq1,hl1⟩:=waits_fence (m:=m) hq;have Hq:=Lib.hid hq1;have Hl1:=Lib.hid (show (m.fence t).waits.length≤6 by rw[hl1];exact HH.out.om.waits);have Hin:=Lib.hid (here_fence hin t)
  have HC1:=Lib.hid (cells_fence (HH.out.cells hN) t);clear hfence hq hin hup hq1 hl1 HS Hcall hwz
  go_wp2_with fail
  refine Hfence.out.mono ?_;rintro e w7 ⟨rfl,vs1,hU7⟩
  have hb1:rb+1<8:=by omega
  have hvw2:=HH.out.regW Hh.out hb;obtain ⟨vo,hvo⟩:∃x,h.regs.getD rb 0=x:=⟨_,rfl⟩;rw[hvo]at hvw2;have hvw3:=HH.out.regW Hh.out hb1;obtain ⟨vn,hvn⟩:∃x,h.regs.getD (rb+1) 0=x:=⟨_,rfl⟩;rw[hvn]at hvw3;have Hvw2:=Lib.hid hvw2;have Hvw3:=Lib.hid hvw3;clear hvw2 hvw3
  obtain ⟨ms,hms⟩:∃ms:M,ms=if getWord (m.fence t).cells c.toNat rc=vo then {m.fence t with cells:=Qs.setWord (m.fence t).cells c.toNat rc vn}else m.fence t:=⟨_,rfl⟩
  have hmsT:ms.T=m.T:=by rw[hms];split <;> rfl
  have HhS:=Lib.hid (show ms.T[t]?=some h by rw[hmsT];exact Hh.out);have hbx1:¬XFoot X vs1 mv w6.heap.size:=fun e=>(hU7.foot _ e).elim hbx (fun e=>by omega);have hxw1:¬XFoot X vs1 mv w.heap.size:=fun e=>(hU7.foot _ e).elim hxw (fun e=>by omega);have f0:=hU7.rep.top_at.1;have f1:=hU7.mod.cell y0 hbx
  have f2:=hU7.mod.cell y1 hbx;have e3:=hU7.mod.cell v3 hxw;have e2:=hU7.mod.cell v2 hxw;have hT7:(m.fence t).T[t]?=some h:=Hh.out;have g0:=hU7.rep.reg_at hT7 hb;rw[hvo]at g0;have g1:=hU7.rep.reg_at hT7 hb1;rw[hvn]at g1;have HU7:=Lib.hid hU7;have HT7:=Lib.hid hT7
  have hS2:∀W,Mod noF w7 W→W.cell? ⟨X.bX,0,none⟩=some (.pointer (some ⟨X.P.bM,0,none⟩))∧W.cell? ⟨w6.heap.size,0,none⟩=some (.int .i64 c)∧W.cell? ⟨w6.heap.size,1,none⟩=some (.int .i64 g)∧W.cell? ⟨w.heap.size,3,none⟩=some (.int .i64 rc)∧W.cell? ⟨w.heap.size,2,none⟩=some (.int .i64 rb)∧W.cell? ⟨X.bL,t*11+2+rb,none⟩=some (.int .i64 vo)∧W.cell? ⟨X.bL,t*11+2+(rb+1),none⟩=some (.int .i64 vn):=fun W hW=>⟨hW.cell f0 (fun e=>e),hW.cell f1 (fun e=>e),hW.cell f2 (fun e=>e),hW.cell e3 (fun e=>e),hW.cell e2 (fun e=>e),hW.cell g0 (fun e=>e),hW.cell g1 (fun e=>e)⟩
  have hcall2:∀W,Mod noF w7 W→Calls Tryz.prog 93 #[.pointer (some ⟨X.P.bM,0,none⟩),.int .i64 t,.agg #[.int .i64 c,.int .i64 g],.int .i64 rc,.int .i64 vo,.int .i64 vn] W fun e w'=>e=.returned (.tuple #[.int .i64 (getWord (m.fence t).cells c.toNat rc),.nilIface])∧∃vs',XUp W X vs1 mv (m.fence t) w' (ms) vs' mv∧w'.cell? ⟨X.bX,0,none⟩=some (.pointer (some ⟨X.P.bM,0,none⟩))∧w'.cell? ⟨w6.heap.size,0,none⟩=some (.int .i64 c)∧w'.cell? ⟨w6.heap.size,1,none⟩=some (.int .i64 g)∧w'.cell? ⟨w.heap.size,3,none⟩=some (.int .i64 rc)∧w'.cell? ⟨w.heap.size,2,none⟩=some (.int .i64 rb)∧w'.cell? ⟨X.bL,t*11+2+rb,none⟩=some (.int .i64 vo)∧w'.cell? ⟨X.bL,t*11+2+(rb+1),none⟩=some (.int .i64 vn):=fun W hW=>by
   have:=(HU7.out.rep.keep0 hW).cas_ok (((HL.out.keep hz).up HU7.out).keep hW) HC1.out Hl1.out Hq.out hc Hin.out Hvw3.out Hvw2.out;rw[←hms]at this;refine this.mono ?_;rintro e w' ⟨rfl,vs2,hU⟩
   exact ⟨rfl,vs2,hU,hU.rep.top_at.1,hU.mod.cell (hW.cell f1 (fun e=>e)) hbx1,hU.mod.cell (hW.cell f2 (fun e=>e)) hbx1,hU.mod.cell (hW.cell e3 (fun e=>e)) hxw1,hU.mod.cell (hW.cell e2 (fun e=>e)) hxw1,(by have:=hU.rep.reg_at HhS.out hb;rw[hvo]at this;exact this),(by have:=hU.rep.reg_at HhS.out hb1;rw[hvn]at this;exact this)⟩
  have hst2:=hS2 _ (Mod.refl _ _);have HS2:=Lib.hid hS2;have Hcall2:=Lib.hid hcall2;clear hS2 hcall2 hU7 hT7
  try go_wp2
  go_region_held3 (fun W=>W.cell? ⟨X.bX,0,none⟩=some (.pointer (some ⟨X.P.bM,0,none⟩))∧W.cell? ⟨w6.heap.size,0,none⟩=some (.int .i64 c)∧W.cell? ⟨w6.heap.size,1,none⟩=some (.int .i64 g)∧W.cell? ⟨w.heap.size,3,none⟩=some (.int .i64 rc)∧W.cell? ⟨w.heap.size,2,none⟩=some (.int .i64 rb)∧W.cell? ⟨X.bL,t*11+2+rb,none⟩=some (.int .i64 vo)∧W.cell? ⟨X.bL,t*11+2+(rb+1),none⟩=some (.int .i64 vn)) ((first|assumption|(refine HS2.out _ ?_;first|assumption|exact Mod.refl _ _|exact (Mod.refl _ _).drew))) (first|(go_at_call 93;refine (Hcall2.out _ (by repeat (first|exact Mod.refl _ _|refine Mod.drew ?_|refine Mod.drewN ?_ _|refine Mod.alloc ?_ _))).mono ?_;rintro e w8 ⟨rfl,vs2,hU8,k8⟩))
  have P8:=hU8.rep;have x5:=P8.reg_at HhS.out hb;have x6:=P8.reg_free HhS.out (t*11+2+rb);have x7:=(P8.thr_at HhS.out).2.2
  have x1:w8.cell? ⟨w.heap.size,2,none⟩=some (.int .i64 rb):=by go_split_ands;assumption
  generalize hvx:h.regs.getD rb 0=vx at x5;have HU8:=Lib.hid hU8;clear hU8 P8;go_wp2
  go_region
  go_wp2;refine bodyPost_end (v:=.tuple #[]) (by simp[results,Tryz.results47,go_sem]) rfl ⟨rfl,?_⟩;refine ⟨vs2,?_⟩;rw[hvo,hvn];unfold casM;rw[←hms]
  exact ((((XUp.quiet HH.out.p hz).trans HU7.out).trans ((XUp.quiet HU7.out.rep (by repeat (first|exact Mod.refl _ _|refine Mod.drew ?_|refine Mod.drewN ?_ _|refine Mod.alloc ?_ _))).trans HU8.out)).trans (HU8.out.rep.setRegQ HhS.out h8 hb (getWord (m.fence t).cells c.toNat rc))).then0 (by repeat (first|exact Mod.refl _ _|refine Mod.drew ?_|refine Mod.drewN ?_ _|refine Mod.alloc ?_ _))
 ·obtain ⟨wz,hwz⟩:∃wz,wz=((w6.setCell ⟨wn.heap.size,0,none⟩ (.int .i64 c)).setCell ⟨wn.heap.size,1,none⟩ (.int .i64 g)):=⟨_,rfl⟩
  have hmz:Mod noF wn wz:=by rw[hwz];exact mod_ref2 ((((Mod.refl noF wn).alloc _).drew).trans0 hm6) (Nat.le_refl _) _ _
  have hz:=Hmn.out.trans0 hmz;have hup:XUp w X vs mv m wz m vs mv:=XUp.quiet HH.out.p hz
  have y0:wz.cell? ⟨wn.heap.size,0,none⟩=some (.int .i64 c):=by rw[hwz];exact (set2_at hc70 hc71 _ _).1
  have y1:wz.cell? ⟨wn.heap.size,1,none⟩=some (.int .i64 g):=by rw[hwz];exact (set2_at hc70 hc71 _ _).2
  rw[←hwz]
  have hBw:w.heap.size≤wn.heap.size:=by omega
  have hBz:wn.heap.size<wz.heap.size:=by rw[hwz];simp;omega
  have hwz0:w.heap.size<wz.heap.size:=by have:=hmz.size;omega
  have hbx:¬XFoot X vs mv wn.heap.size:=fun e=>by have:=HH.out.p.lt e;omega
  have v1:=hmz.cell s1 (fun e=>e);have v2:=hmz.cell s2 (fun e=>e);have v3:=hmz.cell s3 (fun e=>e);have u0:=hz.cell t0 (fun e=>e);obtain ⟨q,hq⟩:∃q,m.waits[t]?=some q:=⟨_,List.getElem?_eq_getElem (by rw[HH.out.ot.len];exact ht)⟩;have hin:=(names_ref Hn.out).2
  have hfence:=pmfence_any (HH.out.keep0 hz) hN (HL.out.keep hz) ht;have Hfence:=Lib.hid hfence;obtain ⟨hq1,hl1⟩:=waits_fence (m:=m) hq;have Hq:=Lib.hid hq1;have Hl1:=Lib.hid (show (m.fence t).waits.length≤6 by rw[hl1];exact HH.out.om.waits);have Hin:=Lib.hid (here_fence hin t)
  have HC1:=Lib.hid (cells_fence (HH.out.cells hN) t);clear hfence hq hin hup hq1 hl1 HS Hcall hwz
  go_wp2_with fail
  refine Hfence.out.mono ?_;rintro e w7 ⟨rfl,vs1,hU7⟩
  have hb1:rb+1<8:=by omega
  have hvw2:=HH.out.regW Hh.out hb;obtain ⟨vo,hvo⟩:∃x,h.regs.getD rb 0=x:=⟨_,rfl⟩;rw[hvo]at hvw2;have hvw3:=HH.out.regW Hh.out hb1;obtain ⟨vn,hvn⟩:∃x,h.regs.getD (rb+1) 0=x:=⟨_,rfl⟩;rw[hvn]at hvw3;have Hvw2:=Lib.hid hvw2;have Hvw3:=Lib.hid hvw3;clear hvw2 hvw3
  obtain ⟨ms,hms⟩:∃ms:M,ms=if getWord (m.fence t).cells c.toNat rc=vo then {m.fence t with cells:=Qs.setWord (m.fence t).cells c.toNat rc vn}else m.fence t:=⟨_,rfl⟩
  have hmsT:ms.T=m.T:=by rw[hms];split <;> rfl
  have HhS:=Lib.hid (show ms.T[t]?=some h by rw[hmsT];exact Hh.out);have hbx1:¬XFoot X vs1 mv wn.heap.size:=fun e=>(hU7.foot _ e).elim hbx (fun e=>by omega);have hxw1:¬XFoot X vs1 mv w.heap.size:=fun e=>(hU7.foot _ e).elim hxw (fun e=>by omega);have f0:=hU7.rep.top_at.1;have f1:=hU7.mod.cell y0 hbx
  have f2:=hU7.mod.cell y1 hbx;have e3:=hU7.mod.cell v3 hxw;have e2:=hU7.mod.cell v2 hxw;have hT7:(m.fence t).T[t]?=some h:=Hh.out;have g0:=hU7.rep.reg_at hT7 hb;rw[hvo]at g0;have g1:=hU7.rep.reg_at hT7 hb1;rw[hvn]at g1;have HU7:=Lib.hid hU7;have HT7:=Lib.hid hT7
  have hS2:∀W,Mod noF w7 W→W.cell? ⟨X.bX,0,none⟩=some (.pointer (some ⟨X.P.bM,0,none⟩))∧W.cell? ⟨wn.heap.size,0,none⟩=some (.int .i64 c)∧W.cell? ⟨wn.heap.size,1,none⟩=some (.int .i64 g)∧W.cell? ⟨w.heap.size,3,none⟩=some (.int .i64 rc)∧W.cell? ⟨w.heap.size,2,none⟩=some (.int .i64 rb)∧W.cell? ⟨X.bL,t*11+2+rb,none⟩=some (.int .i64 vo)∧W.cell? ⟨X.bL,t*11+2+(rb+1),none⟩=some (.int .i64 vn):=fun W hW=>⟨hW.cell f0 (fun e=>e),hW.cell f1 (fun e=>e),hW.cell f2 (fun e=>e),hW.cell e3 (fun e=>e),hW.cell e2 (fun e=>e),hW.cell g0 (fun e=>e),hW.cell g1 (fun e=>e)⟩
  have hcall2:∀W,Mod noF w7 W→Calls Tryz.prog 93 #[.pointer (some ⟨X.P.bM,0,none⟩),.int .i64 t,.agg #[.int .i64 c,.int .i64 g],.int .i64 rc,.int .i64 vo,.int .i64 vn] W fun e w'=>e=.returned (.tuple #[.int .i64 (getWord (m.fence t).cells c.toNat rc),.nilIface])∧∃vs',XUp W X vs1 mv (m.fence t) w' (ms) vs' mv∧w'.cell? ⟨X.bX,0,none⟩=some (.pointer (some ⟨X.P.bM,0,none⟩))∧w'.cell? ⟨wn.heap.size,0,none⟩=some (.int .i64 c)∧w'.cell? ⟨wn.heap.size,1,none⟩=some (.int .i64 g)∧w'.cell? ⟨w.heap.size,3,none⟩=some (.int .i64 rc)∧w'.cell? ⟨w.heap.size,2,none⟩=some (.int .i64 rb)∧w'.cell? ⟨X.bL,t*11+2+rb,none⟩=some (.int .i64 vo)∧w'.cell? ⟨X.bL,t*11+2+(rb+1),none⟩=some (.int .i64 vn):=fun W hW=>by
   have:=(HU7.out.rep.keep0 hW).cas_ok (((HL.out.keep hz).up HU7.out).keep hW) HC1.out Hl1.out Hq.out hc Hin.out Hvw3.out Hvw2.out;rw[←hms]at this;refine this.mono ?_;rintro e w' ⟨rfl,vs2,hU⟩
   exact ⟨rfl,vs2,hU,hU.rep.top_at.1,hU.mod.cell (hW.cell f1 (fun e=>e)) hbx1,hU.mod.cell (hW.cell f2 (fun e=>e)) hbx1,hU.mod.cell (hW.cell e3 (fun e=>e)) hxw1,hU.mod.cell (hW.cell e2 (fun e=>e)) hxw1,(by have:=hU.rep.reg_at HhS.out hb;rw[hvo]at this;exact this),(by have:=hU.rep.reg_at HhS.out hb1;rw[hvn]at this;exact this)⟩
  have hst2:=hS2 _ (Mod.refl _ _);have HS2:=Lib.hid hS2;have Hcall2:=Lib.hid hcall2;clear hS2 hcall2 hU7 hT7
  try go_wp2
  go_region_held3 (fun W=>W.cell? ⟨X.bX,0,none⟩=some (.pointer (some ⟨X.P.bM,0,none⟩))∧W.cell? ⟨wn.heap.size,0,none⟩=some (.int .i64 c)∧W.cell? ⟨wn.heap.size,1,none⟩=some (.int .i64 g)∧W.cell? ⟨w.heap.size,3,none⟩=some (.int .i64 rc)∧W.cell? ⟨w.heap.size,2,none⟩=some (.int .i64 rb)∧W.cell? ⟨X.bL,t*11+2+rb,none⟩=some (.int .i64 vo)∧W.cell? ⟨X.bL,t*11+2+(rb+1),none⟩=some (.int .i64 vn)) ((first|assumption|(refine HS2.out _ ?_;first|assumption|exact Mod.refl _ _|exact (Mod.refl _ _).drew))) (first|(go_at_call 93;refine (Hcall2.out _ (by repeat (first|exact Mod.refl _ _|refine Mod.drew ?_|refine Mod.drewN ?_ _|refine Mod.alloc ?_ _))).mono ?_;rintro e w8 ⟨rfl,vs2,hU8,k8⟩))
  have P8:=hU8.rep;have x5:=P8.reg_at HhS.out hb;have x6:=P8.reg_free HhS.out (t*11+2+rb);have x7:=(P8.thr_at HhS.out).2.2
  have x1:w8.cell? ⟨w.heap.size,2,none⟩=some (.int .i64 rb):=by go_split_ands;assumption
  generalize hvx:h.regs.getD rb 0=vx at x5;have HU8:=Lib.hid hU8;clear hU8 P8;go_wp2
  go_region
  go_wp2;refine bodyPost_end (v:=.tuple #[]) (by simp[results,Tryz.results47,go_sem]) rfl ⟨rfl,?_⟩;refine ⟨vs2,?_⟩;rw[hvo,hvn];unfold casM;rw[←hms]
  exact ((((XUp.quiet HH.out.p hz).trans HU7.out).trans ((XUp.quiet HU7.out.rep (by repeat (first|exact Mod.refl _ _|refine Mod.drew ?_|refine Mod.drewN ?_ _|refine Mod.alloc ?_ _))).trans HU8.out)).trans (HU8.out.rep.setRegQ HhS.out h8 hb (getWord (m.fence t).cells c.toNat rc))).then0 (by repeat (first|exact Mod.refl _ _|refine Mod.drew ?_|refine Mod.drewN ?_ _|refine Mod.alloc ?_ _))
theorem ptouch_cas_none(H:PX w X vs mv m N)(hN:N≤1000000000)(L:XLow b0 w a X vs mv){t:Nat}(ht:t<m.T.length){h:Thr}(hh:m.T[t]?=some h)(h8:h.regs.length=8){ra rb rc:Nat}{to:ByteArray}(ha:ra<8)(hb:rb<8)(hc:rc<4)(hn:m.names (h.regs.getD ra 0)=none) :
  Calls Tryz.prog 47 #[.pointer (some ⟨X.bX,0,none⟩),.int .i64 t,insV 9 ra rb rc to] w fun e w'=>e=.returned (.tuple #[])∧∃vs',XUp w X vs mv m w' (m.fault.setReg t rb 0) vs' mv:=by
 obtain ⟨t0,-,-,-,-,t5⟩:=H.p.top_at;obtain ⟨_,t1,-⟩:=H.p.top_at;have r5:=H.p.reg_at hh ha;have wb:=H.regW hh ha;have hl5:=(H.p.thr_at hh).2.2;have ht6:=H.t6
 have ia0:(0:Int)≤(ra:Int):=by omega
 have ia8:(ra:Int)<8:=by omega
 have ib0:(0:Int)≤(rb:Int):=by omega
 have ib8:(rb:Int)<8:=by omega
 have Hreg:=Lib.hid (fun (W:World) (m1:M) (vs1:List Value) (P:PMach W X vs1 mv m1) (hT:m1.T=m.T)=>(show m1.T[t]?=some h by rw[hT];exact hh));generalize hvb:h.regs.getD ra 0=vb at *;have HH:=Lib.hid H;have HL:=Lib.hid L;have Hh:=Lib.hid hh;have Hn:=Lib.hid hn;have Hwb:=Lib.hid wb
 have Hvb:=Lib.hid hvb;clear H L hh hn wb hvb;unfold insV;simp only[opStr]
 go_enter Tryz.func47,Tryz.ntmps47
 go_wp2;obtain ⟨wn,hwn⟩:∃wn,wn=w.alloc (.cells #[.string ⟨#[99,97,115]⟩,.int .i64 ra,.int .i64 rb,.int .i64 rc,.string to] 73):=⟨_,rfl⟩
 have hmn:Mod noF w wn:=by rw[hwn];exact (Mod.refl noF w).alloc _
 have s1:wn.cell? ⟨w.heap.size,1,none⟩=some (.int .i64 ra):=by rw[hwn];simp
 have s2:wn.cell? ⟨w.heap.size,2,none⟩=some (.int .i64 rb):=by rw[hwn];simp
 have s3:wn.cell? ⟨w.heap.size,3,none⟩=some (.int .i64 rc):=by rw[hwn];simp
 have hxl:w.heap.size<wn.heap.size:=by rw[hwn];simp
 have hxw:¬XFoot X vs mv w.heap.size:=fun e=>by have:=HH.out.p.lt e;omega
 have p0:=hmn.cell t0 (fun e=>e);have p5:=hmn.cell r5 (fun e=>e);rw[←hwn];clear hwn
 have hcall:∀W,Mod noF wn W→Calls Tryz.prog 87 #[.pointer (some ⟨X.bX,0,none⟩),.int .i64 vb] W fun e w'=>∃c g,e=.returned (.tuple #[.agg #[.int .i64 c,.int .i64 g],.bool false])∧XUp W X vs mv m w' m.fault vs mv∧w'.cell? ⟨w.heap.size,1,none⟩=some (.int .i64 ra)∧w'.cell? ⟨X.bL,t*11+2+ra,none⟩=some (.int .i64 vb):=fun W hW=>
  (pref_miss (HH.out.keep0 (hmn.trans0 hW)) hN (HL.out.keep (hmn.trans0 hW)) Hwb.out Hn.out).mono (by
   rintro e w' ⟨c,g,rfl,hU⟩
   exact ⟨c,g,rfl,hU,hU.mod.cell (hW.cell s1 (fun e=>e)) hxw,by have:=hU.rep.reg_at (Hh.out:m.fault.T[t]?=some h) ha;rw[Hvb.out]at this;exact this⟩)
 have Hcall:=Lib.hid hcall;have Hmn:=Lib.hid hmn;have hS:∀W,Mod noF wn W→W.cell? ⟨w.heap.size,1,none⟩=some (.int .i64 ra)∧W.cell? ⟨X.bL,t*11+2+ra,none⟩=some (.int .i64 vb):=fun W hW=>⟨hW.cell s1 (fun e=>e),hW.cell p5 (fun e=>e)⟩;have hst:=hS wn (Mod.refl _ _);have HS:=Lib.hid hS;clear hcall hmn hS
 go_region_held3 (fun W=>W.cell? ⟨w.heap.size,1,none⟩=some (.int .i64 ra)∧W.cell? ⟨X.bL,t*11+2+ra,none⟩=some (.int .i64 vb)) (first|assumption|exact two_alloc (by assumption) _|exact two_drew (by assumption)|exact two_set2 (by assumption) (by omega) (by omega) _ _ _ _) (first|(go_at_call 87;refine (Hcall.out _ (by repeat (first|exact Mod.refl _ _|refine Mod.drew ?_|refine Mod.drewN ?_ _|refine Mod.alloc ?_ _))).mono ?_;rintro e w6 ⟨c,g,rfl,hU6,k2⟩;have k3:=k2.1;(try (have hb7:=hU6.mod.heap (heap_alloc_new _ _) (fun e=>by have:=(HH.out.keep0 (Hmn.out)).p.lt e;omega);have hc70:=cell_of_heap hb7 0;have hc71:=cell_of_heap hb7 1;have hf70:=free_of_heap hb7 0;have hf71:=free_of_heap hb7 1;have hl7:=lt_of_block hb7;simp at hc70 hc71 hf70 hf71 hl7))))
 ·obtain ⟨wz,hwz⟩:∃wz,wz=(w6.alloc (.cells #[.int .i64 c,.int .i64 g] 101)):=⟨_,rfl⟩
  have hup:XUp w X vs mv m wz m.fault vs mv:=by rw[hwz];exact ((XUp.quiet HH.out.p (Hmn.out.trans0 (Mod.refl noF wn).drew)).trans hU6).then0 ((Mod.refl noF w6).alloc _)
  have y0:wz.cell? ⟨w6.heap.size,0,none⟩=some (.int .i64 c):=by rw[hwz];simp
  have y1:wz.cell? ⟨w6.heap.size,1,none⟩=some (.int .i64 g):=by rw[hwz];simp
  rw[←hwz];have Hup:=Lib.hid hup
  have hT:wz.cell? ⟨w.heap.size,1,none⟩=some (.int .i64 ra)∧wz.cell? ⟨w.heap.size,2,none⟩=some (.int .i64 rb):=by
   have hs6:=hU6.mod.size;simp at hs6
   have hx1:Mod (fun k=>XFoot X vs mv k∨k=w6.heap.size) wn wz:=by rw[hwz];exact (((((Mod.refl noF wn).drew).any.trans hU6.mod (fun k _ e=>e)).mono (fun k _ e=>.inl e)).alloc _)
   exact ⟨hx1.cell s1 (fun e=>e.elim hxw (fun (e:w.heap.size=w6.heap.size)=>by omega)),hx1.cell s2 (fun e=>e.elim hxw (fun (e:w.heap.size=w6.heap.size)=>by omega))⟩
  obtain ⟨x1,x2⟩:=hT;have P8:=hup.rep;have x5:=P8.reg_at (Hh.out:m.fault.T[t]?=some h) hb;have x6:=P8.reg_free (Hh.out:m.fault.T[t]?=some h) (t*11+2+rb);have x7:=(P8.thr_at (Hh.out:m.fault.T[t]?=some h)).2.2;generalize hva:h.regs.getD rb 0=va at *;clear hup HS Hcall hwz P8;go_wp2
  go_region
  go_wp2;refine bodyPost_end (v:=.tuple #[]) (by simp[results,Tryz.results47,go_sem]) rfl ⟨rfl,?_⟩
  exact ⟨vs,(Hup.out.trans (Hup.out.rep.setRegQ (Hh.out:m.fault.T[t]?=some h) h8 hb 0)).then0 (by repeat (first|exact Mod.refl _ _|refine Mod.drew ?_|refine Mod.drewN ?_ _|refine Mod.alloc ?_ _))⟩
 ·obtain ⟨wz,hwz⟩:∃wz,wz=((w6.setCell ⟨wn.heap.size,0,none⟩ (.int .i64 c)).setCell ⟨wn.heap.size,1,none⟩ (.int .i64 g)):=⟨_,rfl⟩
  have hup:XUp w X vs mv m wz m.fault vs mv:=by rw[hwz];exact XUp.ref2 (m1:=m.fault) HH.out.p rfl ((XUp.quiet HH.out.p (Hmn.out.trans0 (((Mod.refl noF wn).alloc _).drew))).trans hU6) (Nat.le_of_lt hxl) _ _
  have y0:wz.cell? ⟨wn.heap.size,0,none⟩=some (.int .i64 c):=by rw[hwz];exact (set2_at hc70 hc71 _ _).1
  have y1:wz.cell? ⟨wn.heap.size,1,none⟩=some (.int .i64 g):=by rw[hwz];exact (set2_at hc70 hc71 _ _).2
  rw[←hwz];have Hup:=Lib.hid hup
  have hT:wz.cell? ⟨w.heap.size,1,none⟩=some (.int .i64 ra)∧wz.cell? ⟨w.heap.size,2,none⟩=some (.int .i64 rb):=by
   have hs6:=hU6.mod.size;simp at hs6
   have hx1:Mod (fun k=>XFoot X vs mv k∨k=wn.heap.size) wn wz:=by rw[hwz];exact ((((((((Mod.refl noF wn).alloc _).drew).any.trans hU6.mod (fun k _ e=>e)).mono (fun k _ e=>.inl e)).setCell (fun _=>.inr rfl) _).setCell (fun _=>.inr rfl) _))
   exact ⟨hx1.cell s1 (fun e=>e.elim hxw (fun (e:w.heap.size=wn.heap.size)=>by omega)),hx1.cell s2 (fun e=>e.elim hxw (fun (e:w.heap.size=wn.heap.size)=>by omega))⟩
  obtain ⟨x1,x2⟩:=hT;have P8:=hup.rep;have x5:=P8.reg_at (Hh.out:m.fault.T[t]?=some h) hb;have x6:=P8.reg_free (Hh.out:m.fault.T[t]?=some h) (t*11+2+rb);have x7:=(P8.thr_at (Hh.out:m.fault.T[t]?=some h)).2.2;generalize hva:h.regs.getD rb 0=va at *;clear hup HS Hcall hwz P8;go_wp2
  go_region
  go_wp2;refine bodyPost_end (v:=.tuple #[]) (by simp[results,Tryz.results47,go_sem]) rfl ⟨rfl,?_⟩
  exact ⟨vs,(Hup.out.trans (Hup.out.rep.setRegQ (Hh.out:m.fault.T[t]?=some h) h8 hb 0)).then0 (by repeat (first|exact Mod.refl _ _|refine Mod.drew ?_|refine Mod.drewN ?_ _|refine Mod.alloc ?_ _))⟩
end Go.Proofs.YtciaficoeajeaaaGreatDoor
