/- mach.Step: mark; where it has an error. -/
import Derived.Test.YtciaficoeajeaaaGreatDoorWFm10
import Derived.Test.YtciaficoeajeaaaGreatDoorWFm5
import Derived.Test.YtciaficoeajeaaaGreatDoorWFm4
set_option linter.unusedVariables false
set_option linter.unusedSimpArgs false
set_option linter.unusedSectionVars false
set_option maxHeartbeats 4000000
set_option maxRecDepth 100000
namespace Go.Proofs.YtciaficoeajeaaaGreatDoor
open Go.RowKit Qs Qh
variable {w w1 w2 w' b0:World}{X:XB}{vs vs':List Value}{mv mv':Value}{m m':M}{N:Int}{a:Nat→Addr}
theorem pmarkInfo:(Tryz.prog.info? 78).map (fun i=>(i.zero,i.size,i.bytes))=some (some (.agg #[.int .i64 0,.int .i64 0]),2,16):=by kernel_rfl
theorem pst_done(H:PX w X vs mv m N)(L:XLow b0 w a X vs mv){t:Nat}(ht:t<m.T.length)(hd:m.done t=true) :
  Calls Tryz.prog 14 #[.pointer (some ⟨X.bX,0,none⟩),.int .i64 t] w fun e w'=>e=.returned (errV a 8)∧Mod noF w w':=by
 obtain ⟨t0,t1,-,-,-,t5⟩:=H.p.top_at
 have d0:decide ((t:Int)<0)=false:=by simp
 have d1:decide ((m.T.length:Int)≤(t:Int))=false:=by simp;omega
 have hpd:=pdone_any H t ht;rw[hd]at hpd;have Hpd:=Lib.hid hpd;have HL:=Lib.hid L;clear H L hd hpd
 go_enter Tryz.func14,Tryz.ntmps14
 go_wp2_with fail
 refine Hpd.out.mono ?_;rintro e w1 ⟨rfl,hm⟩;have v8:=(HL.out.keep hm).E.v8;have Hm:=Lib.hid hm;clear hm;go_wp2;go_ret;exact ⟨rfl,Hm.out⟩
theorem pst_mark_full(H:PX w X vs mv m N)(hN:N≤900000000)(L:XLow b0 w a X vs mv){t:Nat}(ht:t<m.T.length){h:Thr}(hh:m.T[t]?=some h){ra:Nat}{B C:Int}{to:List UInt8}(ha:ra<8)(h5:¬m.marks.length<500)(hx:h.code[h.pc]?=some ⟨18,ra,B,C,to⟩) :
  Calls Tryz.prog 14 #[.pointer (some ⟨X.bX,0,none⟩),.int .i64 t] w fun e w'=>e=.returned .nilIface∧∃vs' mv',XUp w X vs mv m w' (m.setPc t (h.pc+1)) vs' mv':=by
 have hthr:m.thr t=h:=by simp[M.thr,List.getD,hh]
 have hdone:m.done t=false:=by unfold M.done;rw[hthr,hx];rfl
 have hpd:=pdone_any H t ht;rw[hdone]at hpd;obtain ⟨t0,t1,-,-,-,t5⟩:=H.p.top_at;have ht6:=H.t6
 have d0:decide ((t:Int)<0)=false:=by simp
 have d1:decide ((m.T.length:Int)≤(t:Int))=false:=by simp;omega
 have d2:(t:Int)<(m.T.length:Int):=by omega
 have hh8:=(H.ot.regs t h hh).1;obtain ⟨hpc,hco⟩:=H.ot.code t h hh;have hlen:=hco.len;have hlt:h.pc<h.code.length:=(List.getElem?_eq_some_iff.1 hx).1
 have d3:(h.pc:Int)<(h.code.length:Int):=by omega
 have hwr:IntKind.i64.wrap ((h.pc:Int)+1)=(h.pc:Int)+1:=IntWalk.i64_in _ (by omega)
 have ira0:(0:Int)≤(ra:Int):=by omega
 have ira8:(ra:Int)<8:=by omega
 have HH:=Lib.hid H;have HL:=Lib.hid L;have Hh:=Lib.hid hh;have Hx:=Lib.hid hx;have Hpd:=Lib.hid hpd;have Hco:=Lib.hid hco;clear H L hh hx hpd hthr hdone hco
 go_enter Tryz.func14,Tryz.ntmps14
 go_wp2_with fail
 refine Hpd.out.mono ?_;rintro e w6 ⟨rfl,hm6⟩;have h6:=HH.out.keep0 hm6;obtain ⟨u0,u1,-,-,-,u5⟩:=h6.p.top_at;obtain ⟨r1,-,r3⟩:=h6.p.thr_at Hh.out;obtain ⟨cb,off,cc,e,hcb,hcell⟩:=pcode_cell h6.p Hh.out Hx.out;have r0:w6.cell? ⟨X.bL,t*11,none⟩=some (X.cv t):=r1 0 _ rfl;rw[e]at r0
 have r10:w6.cell? ⟨X.bL,t*11+10,none⟩=some (.int .i64 (h.pc:Nat)):=r1 10 _ rfl;have r10f:=h6.p.reg_free Hh.out (t*11+10);have c0:=hcell 0 _ rfl;have c1:=hcell 1 _ rfl;have c2:=hcell 2 _ rfl;have c3:=hcell 3 _ rfl;have c4:=hcell 4 _ rfl;have hcf:=(h6.p.code t h Hh.out).2 cb (by rw[e];rfl)
 have hcL:X.bL≠cb:=fun e=>hcf.1 (.inr (.inl e.symm));have hXl:X.bL<w6.heap.size:=r3;simp only[Nat.add_zero,opStr,iv,sv]at c0 c1 c2 c3 c4;generalize hd4:(⟨to.toArray⟩:ByteArray)=dto at *;have Hd4:=Lib.hid hd4;have H6:=Lib.hid h6;have Hm6:=Lib.hid hm6;have He:=Lib.hid e
 have hst:w6.cell? ⟨X.bL,t*11,none⟩=some (.slice (some ⟨cb,off,none⟩) h.code.length cc)∧w6.cell? ⟨X.bL,t*11+10,none⟩=some (.int .i64 (h.pc:Nat))∧w6.cell? ⟨cb,off+h.pc*5,none⟩=some (.string ⟨#[109,97,114,107]⟩)∧w6.cell? ⟨cb,off+h.pc*5+1,none⟩=some (.int .i64 ra)∧w6.cell? ⟨cb,off+h.pc*5+2,none⟩=some (.int .i64 B)∧w6.cell? ⟨cb,off+h.pc*5+3,none⟩=some (.int .i64 C)∧w6.cell? ⟨cb,off+h.pc*5+4,none⟩=some (.string dto):=⟨r0,r10,c0,c1,c2,c3,c4⟩
 have hS:∀W,Mod noF w6 W→W.cell? ⟨X.bL,t*11,none⟩=some (.slice (some ⟨cb,off,none⟩) h.code.length cc)∧W.cell? ⟨X.bL,t*11+10,none⟩=some (.int .i64 (h.pc:Nat))∧W.cell? ⟨cb,off+h.pc*5,none⟩=some (.string ⟨#[109,97,114,107]⟩)∧W.cell? ⟨cb,off+h.pc*5+1,none⟩=some (.int .i64 ra)∧W.cell? ⟨cb,off+h.pc*5+2,none⟩=some (.int .i64 B)∧W.cell? ⟨cb,off+h.pc*5+3,none⟩=some (.int .i64 C)∧W.cell? ⟨cb,off+h.pc*5+4,none⟩=some (.string dto):=fun W hW=>⟨hW.cell r0 (fun e=>e),hW.cell r10 (fun e=>e),hW.cell c0 (fun e=>e),hW.cell c1 (fun e=>e),hW.cell c2 (fun e=>e),hW.cell c3 (fun e=>e),hW.cell c4 (fun e=>e)⟩
 have HS:=Lib.hid hS;clear h6 hm6 e hcell r1 hd4 hcf t0 t1 t5 hS;go_wp2
 go_region_held3 (fun W=>W.cell? ⟨X.bL,t*11,none⟩=some (.slice (some ⟨cb,off,none⟩) h.code.length cc)∧W.cell? ⟨X.bL,t*11+10,none⟩=some (.int .i64 (h.pc:Nat))∧W.cell? ⟨cb,off+h.pc*5,none⟩=some (.string ⟨#[109,97,114,107]⟩)∧W.cell? ⟨cb,off+h.pc*5+1,none⟩=some (.int .i64 ra)∧W.cell? ⟨cb,off+h.pc*5+2,none⟩=some (.int .i64 B)∧W.cell? ⟨cb,off+h.pc*5+3,none⟩=some (.int .i64 C)∧W.cell? ⟨cb,off+h.pc*5+4,none⟩=some (.string dto)) ((first|assumption|(refine HS.out _ ?_;repeat (first|exact Mod.refl _ _|refine Mod.drew ?_|refine Mod.alloc ?_ _|refine mod_set1 ?_ (Nat.le_refl _) _ _)))) (first|fail)
 obtain ⟨wz,hwz⟩:∃wz,wz=w6.alloc (.cells #[.string ⟨#[109,97,114,107]⟩,.int .i64 ra,.int .i64 B,.int .i64 C,.string dto] 73):=⟨_,rfl⟩
 have hmz:Mod noF w6 wz:=by rw[hwz];exact (Mod.refl noF w6).alloc _
 have hbz:w6.heap.size<wz.heap.size:=by rw[hwz];simp
 have s0:wz.cell? ⟨w6.heap.size,0,none⟩=some (.string ⟨#[109,97,114,107]⟩):=by rw[hwz];simp
 have s1:wz.cell? ⟨w6.heap.size,1,none⟩=some (.int .i64 ra):=by rw[hwz];simp
 have s2:wz.cell? ⟨w6.heap.size,2,none⟩=some (.int .i64 B):=by rw[hwz];simp
 have s3:wz.cell? ⟨w6.heap.size,3,none⟩=some (.int .i64 C):=by rw[hwz];simp
 have s4:wz.cell? ⟨w6.heap.size,4,none⟩=some (.string dto):=by rw[hwz];simp
 rw[←hwz];have hz:=Hm6.out.trans0 hmz;have hzP:=HH.out.keep0 hz;have q10:=hmz.cell r10 (fun e=>e);have q10f:=hzP.p.reg_free Hh.out (t*11+10);have hMp:Mod (fun k=>k=X.bL) wz (wz.setCell ⟨X.bL,t*11+10,none⟩ (.int .i64 ((h.pc:Int)+1))):=(Mod.refl (fun k=>k=X.bL) wz).setCell (fun _=>rfl) _
 have nb:∀j:Nat,¬(⟨w6.heap.size,j,none⟩:Addr).block=X.bL:=fun j (e:w6.heap.size=X.bL)=>by omega
 have z0:=hMp.cell s0 (nb 0);have z1:=hMp.cell s1 (nb 1);have z2:=hMp.cell s2 (nb 2);have z3:=hMp.cell s3 (nb 3);have z4:=hMp.cell s4 (nb 4);have hup:=(XUp.quiet HH.out.p hz).trans (hzP.p.setPcQ Hh.out (h.pc+1));rw[show ((h.pc+1:Nat):Int)=(h.pc:Int)+1 from by omega]at hup
 have hT1:(m.setPc t (h.pc+1)).T[t]?=some {h with pc:=h.pc+1}:=setPc_T Hh.out _;have HT1:=Lib.hid hT1;obtain ⟨wp,hwp⟩:∃wp,wp=wz.setCell ⟨X.bL,t*11+10,none⟩ (.int .i64 ((h.pc:Int)+1)):=⟨_,rfl⟩;rw[←hwp]at hup;have y0:=z0;have y1:=z1;have y2:=z2;have y3:=z3;have y4:=z4;rw[←hwp]at y0 y1 y2 y3 y4
 have hbp:w6.heap.size<wp.heap.size:=by rw[hwp];simpa using hbz
 have HU:=Lib.hid hup;have Hwp:=Lib.hid hwp;clear hz hzP hMp nb hup hT1 hwz hmz hwp s0 s1 s2 s3 s4 HS r0 r10 c0 c1 c2 c3 c4 hst r10f;have x0:=HU.out.rep.reg_at HT1.out ha;have xf0:=HU.out.rep.reg_free HT1.out (t*11+2+ra);have xl:=(HU.out.rep.thr_at HT1.out).2.2
 obtain ⟨va,hva⟩:∃x,h.regs.getD ra 0=x:=⟨_,rfl⟩;rw[show ({h with pc:=h.pc+1}:Thr).regs.getD ra 0=h.regs.getD ra 0 from rfl,hva]at x0;obtain ⟨-,-,m2,-,f4,f5⟩:=HU.out.rep.top_at;have m2f:=f4 2;clear f4;have hrow:=HU.out.rep.marks;obtain ⟨sa,sc,rfl,hs1,hs2⟩:=hrow.slice
 replace m2:wp.cell? ⟨X.bX,2,none⟩=some (.slice sa m.marks.length sc):=m2;replace hs1:m.marks.length≤sc:=hs1;have z5:=m2;rw[Hwp.out]at z5
 have dm:decide ((m.marks.length:Int)<500)=false:=by simp;omega
 clear hrow;go_wp2;go_ret;rw[←Hwp.out];exact ⟨rfl,vs,_,HU.out.then0 (by repeat (first|exact Mod.refl _ _|refine Mod.drew ?_|refine Mod.drewN ?_ _|refine Mod.alloc ?_ _))⟩
theorem pst_mark(H:PX w X vs mv m N)(hN:N≤900000000)(L:XLow b0 w a X vs mv){t:Nat}(ht:t<m.T.length){h:Thr}(hh:m.T[t]?=some h){ra:Nat}{B C:Int}{to:List UInt8}(ha:ra<8)(h5:m.marks.length<500)(hx:h.code[h.pc]?=some ⟨18,ra,B,C,to⟩) :
  Calls Tryz.prog 14 #[.pointer (some ⟨X.bX,0,none⟩),.int .i64 t] w fun e w'=>e=.returned .nilIface∧∃vs' mv',XUp w X vs mv m w' ({m.setPc t (h.pc+1)with marks:=m.marks++[((t:Int),h.regs.getD ra 0)]}) vs' mv':=by
 have hthr:m.thr t=h:=by simp[M.thr,List.getD,hh]
 have hdone:m.done t=false:=by unfold M.done;rw[hthr,hx];rfl
 have hpd:=pdone_any H t ht;rw[hdone]at hpd;obtain ⟨t0,t1,-,-,-,t5⟩:=H.p.top_at;have ht6:=H.t6
 have d0:decide ((t:Int)<0)=false:=by simp
 have d1:decide ((m.T.length:Int)≤(t:Int))=false:=by simp;omega
 have d2:(t:Int)<(m.T.length:Int):=by omega
 have hh8:=(H.ot.regs t h hh).1;obtain ⟨hpc,hco⟩:=H.ot.code t h hh;have hlen:=hco.len;have hlt:h.pc<h.code.length:=(List.getElem?_eq_some_iff.1 hx).1
 have d3:(h.pc:Int)<(h.code.length:Int):=by omega
 have hwr:IntKind.i64.wrap ((h.pc:Int)+1)=(h.pc:Int)+1:=IntWalk.i64_in _ (by omega)
 have ira0:(0:Int)≤(ra:Int):=by omega
 have ira8:(ra:Int)<8:=by omega
 have HH:=Lib.hid H;have HL:=Lib.hid L;have Hh:=Lib.hid hh;have Hx:=Lib.hid hx;have Hpd:=Lib.hid hpd;have Hco:=Lib.hid hco;clear H L hh hx hpd hthr hdone hco
 go_enter Tryz.func14,Tryz.ntmps14
 go_wp2_with fail
 refine Hpd.out.mono ?_;rintro e w6 ⟨rfl,hm6⟩;have h6:=HH.out.keep0 hm6;obtain ⟨u0,u1,-,-,-,u5⟩:=h6.p.top_at;obtain ⟨r1,-,r3⟩:=h6.p.thr_at Hh.out;obtain ⟨cb,off,cc,e,hcb,hcell⟩:=pcode_cell h6.p Hh.out Hx.out;have r0:w6.cell? ⟨X.bL,t*11,none⟩=some (X.cv t):=r1 0 _ rfl;rw[e]at r0
 have r10:w6.cell? ⟨X.bL,t*11+10,none⟩=some (.int .i64 (h.pc:Nat)):=r1 10 _ rfl;have r10f:=h6.p.reg_free Hh.out (t*11+10);have c0:=hcell 0 _ rfl;have c1:=hcell 1 _ rfl;have c2:=hcell 2 _ rfl;have c3:=hcell 3 _ rfl;have c4:=hcell 4 _ rfl;have hcf:=(h6.p.code t h Hh.out).2 cb (by rw[e];rfl)
 have hcL:X.bL≠cb:=fun e=>hcf.1 (.inr (.inl e.symm));have hXl:X.bL<w6.heap.size:=r3;simp only[Nat.add_zero,opStr,iv,sv]at c0 c1 c2 c3 c4;generalize hd4:(⟨to.toArray⟩:ByteArray)=dto at *;have Hd4:=Lib.hid hd4;have H6:=Lib.hid h6;have Hm6:=Lib.hid hm6;have He:=Lib.hid e
 have hst:w6.cell? ⟨X.bL,t*11,none⟩=some (.slice (some ⟨cb,off,none⟩) h.code.length cc)∧w6.cell? ⟨X.bL,t*11+10,none⟩=some (.int .i64 (h.pc:Nat))∧w6.cell? ⟨cb,off+h.pc*5,none⟩=some (.string ⟨#[109,97,114,107]⟩)∧w6.cell? ⟨cb,off+h.pc*5+1,none⟩=some (.int .i64 ra)∧w6.cell? ⟨cb,off+h.pc*5+2,none⟩=some (.int .i64 B)∧w6.cell? ⟨cb,off+h.pc*5+3,none⟩=some (.int .i64 C)∧w6.cell? ⟨cb,off+h.pc*5+4,none⟩=some (.string dto):=⟨r0,r10,c0,c1,c2,c3,c4⟩
 have hS:∀W,Mod noF w6 W→W.cell? ⟨X.bL,t*11,none⟩=some (.slice (some ⟨cb,off,none⟩) h.code.length cc)∧W.cell? ⟨X.bL,t*11+10,none⟩=some (.int .i64 (h.pc:Nat))∧W.cell? ⟨cb,off+h.pc*5,none⟩=some (.string ⟨#[109,97,114,107]⟩)∧W.cell? ⟨cb,off+h.pc*5+1,none⟩=some (.int .i64 ra)∧W.cell? ⟨cb,off+h.pc*5+2,none⟩=some (.int .i64 B)∧W.cell? ⟨cb,off+h.pc*5+3,none⟩=some (.int .i64 C)∧W.cell? ⟨cb,off+h.pc*5+4,none⟩=some (.string dto):=fun W hW=>⟨hW.cell r0 (fun e=>e),hW.cell r10 (fun e=>e),hW.cell c0 (fun e=>e),hW.cell c1 (fun e=>e),hW.cell c2 (fun e=>e),hW.cell c3 (fun e=>e),hW.cell c4 (fun e=>e)⟩
 have HS:=Lib.hid hS;clear h6 hm6 e hcell r1 hd4 hcf t0 t1 t5 hS;go_wp2
 go_region_held3 (fun W=>W.cell? ⟨X.bL,t*11,none⟩=some (.slice (some ⟨cb,off,none⟩) h.code.length cc)∧W.cell? ⟨X.bL,t*11+10,none⟩=some (.int .i64 (h.pc:Nat))∧W.cell? ⟨cb,off+h.pc*5,none⟩=some (.string ⟨#[109,97,114,107]⟩)∧W.cell? ⟨cb,off+h.pc*5+1,none⟩=some (.int .i64 ra)∧W.cell? ⟨cb,off+h.pc*5+2,none⟩=some (.int .i64 B)∧W.cell? ⟨cb,off+h.pc*5+3,none⟩=some (.int .i64 C)∧W.cell? ⟨cb,off+h.pc*5+4,none⟩=some (.string dto)) ((first|assumption|(refine HS.out _ ?_;repeat (first|exact Mod.refl _ _|refine Mod.drew ?_|refine Mod.alloc ?_ _|refine mod_set1 ?_ (Nat.le_refl _) _ _)))) (first|fail)
 obtain ⟨wz,hwz⟩:∃wz,wz=w6.alloc (.cells #[.string ⟨#[109,97,114,107]⟩,.int .i64 ra,.int .i64 B,.int .i64 C,.string dto] 73):=⟨_,rfl⟩
 have hmz:Mod noF w6 wz:=by rw[hwz];exact (Mod.refl noF w6).alloc _
 have hbz:w6.heap.size<wz.heap.size:=by rw[hwz];simp
 have s0:wz.cell? ⟨w6.heap.size,0,none⟩=some (.string ⟨#[109,97,114,107]⟩):=by rw[hwz];simp
 have s1:wz.cell? ⟨w6.heap.size,1,none⟩=some (.int .i64 ra):=by rw[hwz];simp
 have s2:wz.cell? ⟨w6.heap.size,2,none⟩=some (.int .i64 B):=by rw[hwz];simp
 have s3:wz.cell? ⟨w6.heap.size,3,none⟩=some (.int .i64 C):=by rw[hwz];simp
 have s4:wz.cell? ⟨w6.heap.size,4,none⟩=some (.string dto):=by rw[hwz];simp
 rw[←hwz];have hz:=Hm6.out.trans0 hmz;have hzP:=HH.out.keep0 hz;have q10:=hmz.cell r10 (fun e=>e);have q10f:=hzP.p.reg_free Hh.out (t*11+10);have hMp:Mod (fun k=>k=X.bL) wz (wz.setCell ⟨X.bL,t*11+10,none⟩ (.int .i64 ((h.pc:Int)+1))):=(Mod.refl (fun k=>k=X.bL) wz).setCell (fun _=>rfl) _
 have nb:∀j:Nat,¬(⟨w6.heap.size,j,none⟩:Addr).block=X.bL:=fun j (e:w6.heap.size=X.bL)=>by omega
 have z0:=hMp.cell s0 (nb 0);have z1:=hMp.cell s1 (nb 1);have z2:=hMp.cell s2 (nb 2);have z3:=hMp.cell s3 (nb 3);have z4:=hMp.cell s4 (nb 4);have hup:=(XUp.quiet HH.out.p hz).trans (hzP.p.setPcQ Hh.out (h.pc+1));rw[show ((h.pc+1:Nat):Int)=(h.pc:Int)+1 from by omega]at hup
 have hT1:(m.setPc t (h.pc+1)).T[t]?=some {h with pc:=h.pc+1}:=setPc_T Hh.out _;have HT1:=Lib.hid hT1;obtain ⟨wp,hwp⟩:∃wp,wp=wz.setCell ⟨X.bL,t*11+10,none⟩ (.int .i64 ((h.pc:Int)+1)):=⟨_,rfl⟩;rw[←hwp]at hup;have y0:=z0;have y1:=z1;have y2:=z2;have y3:=z3;have y4:=z4;rw[←hwp]at y0 y1 y2 y3 y4
 have hbp:w6.heap.size<wp.heap.size:=by rw[hwp];simpa using hbz
 have HU:=Lib.hid hup;have Hwp:=Lib.hid hwp;clear hz hzP hMp nb hup hT1 hwz hmz hwp s0 s1 s2 s3 s4 HS r0 r10 c0 c1 c2 c3 c4 hst r10f;have x0:=HU.out.rep.reg_at HT1.out ha;have xf0:=HU.out.rep.reg_free HT1.out (t*11+2+ra);have xl:=(HU.out.rep.thr_at HT1.out).2.2
 obtain ⟨va,hva⟩:∃x,h.regs.getD ra 0=x:=⟨_,rfl⟩;rw[show ({h with pc:=h.pc+1}:Thr).regs.getD ra 0=h.regs.getD ra 0 from rfl,hva]at x0;obtain ⟨-,-,m2,-,f4,f5⟩:=HU.out.rep.top_at;have m2f:=f4 2;clear f4;have hrow:=HU.out.rep.marks;obtain ⟨sa,sc,rfl,hs1,hs2⟩:=hrow.slice
 replace m2:wp.cell? ⟨X.bX,2,none⟩=some (.slice sa m.marks.length sc):=m2;replace hs1:m.marks.length≤sc:=hs1;have z5:=m2;rw[Hwp.out]at z5
 have dm:decide ((m.marks.length:Int)<500)=true:=by simp;omega
 obtain ⟨i0,hi,hz0,hz1,hz2⟩:=info_parts pmarkInfo
 have hbnd:m.marks.length+1≤maxLen:=by unfold maxLen;omega
 have Hrow:=Lib.hid hrow;clear hrow;go_wp2;rw[←Hwp.out];obtain ⟨wq,hwq⟩:∃wq,wq=wp.drew:=⟨_,rfl⟩
 have hMq:Mod noF wp wq:=by rw[hwq];exact (Mod.refl _ _).drew
 rw[←hwq];have hupq:=HU.out.then0 hMq;have q2:=hMq.cell m2 (fun e=>e);have q1:=hMq.cell y1 (fun e=>e);have qr:=hMq.cell x0 (fun e=>e);have qb:X.bX<wq.heap.size:=Nat.lt_of_lt_of_le f5 hMq.size;have qlb:X.bL<wq.heap.size:=Nat.lt_of_lt_of_le xl hMq.size
 have qxb:w6.heap.size<wq.heap.size:=Nat.lt_of_lt_of_le hbp hMq.size;have hnX:∀g,(Value.slice sa m.marks.length sc).ownBlock=some g→g≠X.bX:=fun g hg=>(hupq.rep.nM g hg).1;have htop:=hupq.rep.top;have Hupq:=Lib.hid hupq;have HnX:=Lib.hid hnX;have Htop:=Lib.hid htop;have HMq:=Lib.hid hMq
 clear hwq hMq hupq hnX htop m2 y1 x0 y0 y2 y3 y4 z0 z1 z2 z3 z4 z5 q10 q10f xf0 m2f f5 xl hbp hbz
 go_region_law (refine step_append_off rfl (.tmp 142) (.tmp 151) 75 rfl 78 i0 (.agg #[.int .i64 0,.int .i64 0]) 2 16 Tryz.underlying75 hi hz0 hz1 hz2 rfl (by decide) (.slice sa m.marks.length sc) m.marks.length (flat markVals 0 m.marks) rfl (by exact (Hrow.out.keep HMq.out (fun _ _ e=>e)).keep ((Mod.refl noF wq).alloc _).drew (fun _ _ e=>e)) ⟨wq.heap.size,0,none⟩ 1 1 [.int .i64 t,.int .i64 va] rfl rfl (new_cells wq _ _) (ints_one [(t:Int),va]) hbnd (by omega) (by omega) ?_;intro v2 w2 hown2 hgr2 hfr2;obtain ⟨xa,xc,rfl,hxa,hxc⟩:=hown2.slice;have hmod2:Mod (fun x=>(Value.slice sa m.marks.length sc).ownBlock=some x) wq w2:=(((Mod.refl _ wq).alloc _).drew).grown hgr2 (fun k hk _=>hk);have hp2:=hmod2.cell q2 (fun e=>HnX.out _ e rfl);have htop2:=hmod2.heap Htop.out (fun e=>HnX.out _ e rfl);have hf2:=free_of_heap htop2 2;have hb2:=lt_of_block htop2;have Hown2:=Lib.hid hown2;have Hmod2:=Lib.hid hmod2;have Hfr2:=Lib.hid hfr2;clear hown2 hmod2 hfr2 hgr2 htop2)
 all_goals
  go_wp2;go_ret;have hs:=Hupq.out.rep.setMarks (x:=((t:Int),va)) Hmod2.out (by rw[flat_mark_snoc];exact Hown2.out) (fun g hg=>(Hfr2.out g hg).imp id (fun h=>by simp at h;omega));rw[hva]
  exact ⟨rfl,vs,_,(Hupq.out.trans hs).then0 (by repeat (first|exact Mod.refl _ _|refine Mod.drew ?_|refine Mod.drewN ?_ _|refine Mod.alloc ?_ _))⟩
end Go.Proofs.YtciaficoeajeaaaGreatDoor
