/- mach.Step: add, sub, and, xor. -/
import Derived.Test.YtciaficoeajeaaaGreatDoorWFm10
import Derived.Test.YtciaficoeajeaaaGreatDoorWFm5
set_option linter.unusedVariables false
set_option linter.unusedSimpArgs false
set_option linter.unusedSectionVars false
set_option maxHeartbeats 4000000
set_option maxRecDepth 100000
namespace Go.Proofs.YtciaficoeajeaaaGreatDoor
open Go.RowKit Qs Qh
variable {w w1 w2 w' b0:World}{X:XB}{vs vs':List Value}{mv mv':Value}{m m':M}{N:Int}{a:Nat→Addr}
theorem pst_add(H:PX w X vs mv m N)(hN:N≤900000000)(L:XLow b0 w a X vs mv){t:Nat}(ht:t<m.T.length){h:Thr}(hh:m.T[t]?=some h){ra rb rc:Nat}{to:List UInt8}(ha:ra<8)(hb:rb<8)(hc:rc<8)(hx:h.code[h.pc]?=some ⟨2,ra,rb,rc,to⟩) :
  Calls Tryz.prog 14 #[.pointer (some ⟨X.bX,0,none⟩),.int .i64 t] w fun e w'=>e=.returned .nilIface∧∃vs' mv',XUp w X vs mv m w' ((m.setPc t (h.pc+1)).setReg t ra (sum2 2 (h.regs.getD rb 0) (h.regs.getD rc 0))) vs' mv':=by
 have hthr:m.thr t=h:=by simp[M.thr,List.getD,hh]
 have hdone:m.done t=false:=by unfold M.done;rw[hthr,hx];rfl
 have hpd:=pdone_any H t ht;rw[hdone]at hpd;obtain ⟨t0,t1,-,-,-,t5⟩:=H.p.top_at;have ht6:=H.t6
 have d0:decide ((t:Int)<0)=false:=by simp
 have d1:decide ((m.T.length:Int)≤(t:Int))=false:=by simp;omega
 have d2:(t:Int)<(m.T.length:Int):=by omega
 have hh8:=(H.ot.regs t h hh).1;obtain ⟨hpc,hco⟩:=H.ot.code t h hh;have hlen:=hco.len;have hlt:h.pc<h.code.length:=(List.getElem?_eq_some_iff.1 hx).1
 have d3:(h.pc:Int)<(h.code.length:Int):=by omega
 have hwr:IntKind.i64.wrap ((h.pc:Int)+1)=(h.pc:Int)+1:=IntWalk.i64_in _ (by omega)
 have ira0:(0:Int)≤(ra:Int):=by omega
 have ira8:(ra:Int)<8:=by omega
 have irb0:(0:Int)≤(rb:Int):=by omega
 have irb8:(rb:Int)<8:=by omega
 have irc0:(0:Int)≤(rc:Int):=by omega
 have irc8:(rc:Int)<8:=by omega
 have HH:=Lib.hid H;have HL:=Lib.hid L;have Hh:=Lib.hid hh;have Hx:=Lib.hid hx;have Hpd:=Lib.hid hpd;have Hco:=Lib.hid hco;clear H L hh hx hpd hthr hdone hco
 go_enter Tryz.func14,Tryz.ntmps14
 go_wp2_with fail
 refine Hpd.out.mono ?_;rintro e w6 ⟨rfl,hm6⟩;have h6:=HH.out.keep0 hm6;obtain ⟨u0,u1,-,-,-,u5⟩:=h6.p.top_at;obtain ⟨r1,-,r3⟩:=h6.p.thr_at Hh.out;obtain ⟨cb,off,cc,e,hcb,hcell⟩:=pcode_cell h6.p Hh.out Hx.out;have r0:w6.cell? ⟨X.bL,t*11,none⟩=some (X.cv t):=r1 0 _ rfl;rw[e]at r0
 have r10:w6.cell? ⟨X.bL,t*11+10,none⟩=some (.int .i64 (h.pc:Nat)):=r1 10 _ rfl;have r10f:=h6.p.reg_free Hh.out (t*11+10);have c0:=hcell 0 _ rfl;have c1:=hcell 1 _ rfl;have c2:=hcell 2 _ rfl;have c3:=hcell 3 _ rfl;have c4:=hcell 4 _ rfl;have hcf:=(h6.p.code t h Hh.out).2 cb (by rw[e];rfl)
 have hcL:X.bL≠cb:=fun e=>hcf.1 (.inr (.inl e.symm));have hXl:X.bL<w6.heap.size:=r3;simp only[Nat.add_zero,opStr,iv,sv]at c0 c1 c2 c3 c4;generalize hd4:(⟨to.toArray⟩:ByteArray)=dto at *;have Hd4:=Lib.hid hd4;have H6:=Lib.hid h6;have Hm6:=Lib.hid hm6;have He:=Lib.hid e
 have hst:w6.cell? ⟨X.bL,t*11,none⟩=some (.slice (some ⟨cb,off,none⟩) h.code.length cc)∧w6.cell? ⟨X.bL,t*11+10,none⟩=some (.int .i64 (h.pc:Nat))∧w6.cell? ⟨cb,off+h.pc*5,none⟩=some (.string ⟨#[97,100,100]⟩)∧w6.cell? ⟨cb,off+h.pc*5+1,none⟩=some (.int .i64 ra)∧w6.cell? ⟨cb,off+h.pc*5+2,none⟩=some (.int .i64 rb)∧w6.cell? ⟨cb,off+h.pc*5+3,none⟩=some (.int .i64 rc)∧w6.cell? ⟨cb,off+h.pc*5+4,none⟩=some (.string dto):=⟨r0,r10,c0,c1,c2,c3,c4⟩
 have hS:∀W,Mod noF w6 W→W.cell? ⟨X.bL,t*11,none⟩=some (.slice (some ⟨cb,off,none⟩) h.code.length cc)∧W.cell? ⟨X.bL,t*11+10,none⟩=some (.int .i64 (h.pc:Nat))∧W.cell? ⟨cb,off+h.pc*5,none⟩=some (.string ⟨#[97,100,100]⟩)∧W.cell? ⟨cb,off+h.pc*5+1,none⟩=some (.int .i64 ra)∧W.cell? ⟨cb,off+h.pc*5+2,none⟩=some (.int .i64 rb)∧W.cell? ⟨cb,off+h.pc*5+3,none⟩=some (.int .i64 rc)∧W.cell? ⟨cb,off+h.pc*5+4,none⟩=some (.string dto):=fun W hW=>⟨hW.cell r0 (fun e=>e),hW.cell r10 (fun e=>e),hW.cell c0 (fun e=>e),hW.cell c1 (fun e=>e),hW.cell c2 (fun e=>e),hW.cell c3 (fun e=>e),hW.cell c4 (fun e=>e)⟩
 have HS:=Lib.hid hS;clear h6 hm6 e hcell r1 hd4 hcf t0 t1 t5 hS;go_wp2
 go_region_held3 (fun W=>W.cell? ⟨X.bL,t*11,none⟩=some (.slice (some ⟨cb,off,none⟩) h.code.length cc)∧W.cell? ⟨X.bL,t*11+10,none⟩=some (.int .i64 (h.pc:Nat))∧W.cell? ⟨cb,off+h.pc*5,none⟩=some (.string ⟨#[97,100,100]⟩)∧W.cell? ⟨cb,off+h.pc*5+1,none⟩=some (.int .i64 ra)∧W.cell? ⟨cb,off+h.pc*5+2,none⟩=some (.int .i64 rb)∧W.cell? ⟨cb,off+h.pc*5+3,none⟩=some (.int .i64 rc)∧W.cell? ⟨cb,off+h.pc*5+4,none⟩=some (.string dto)) ((first|assumption|(refine HS.out _ ?_;repeat (first|exact Mod.refl _ _|refine Mod.drew ?_|refine Mod.alloc ?_ _|refine mod_set1 ?_ (Nat.le_refl _) _ _)))) (first|fail)
 obtain ⟨wz,hwz⟩:∃wz,wz=w6.alloc (.cells #[.string ⟨#[97,100,100]⟩,.int .i64 ra,.int .i64 rb,.int .i64 rc,.string dto] 73):=⟨_,rfl⟩
 have hmz:Mod noF w6 wz:=by rw[hwz];exact (Mod.refl noF w6).alloc _
 have hbz:w6.heap.size<wz.heap.size:=by rw[hwz];simp
 have s0:wz.cell? ⟨w6.heap.size,0,none⟩=some (.string ⟨#[97,100,100]⟩):=by rw[hwz];simp
 have s1:wz.cell? ⟨w6.heap.size,1,none⟩=some (.int .i64 ra):=by rw[hwz];simp
 have s2:wz.cell? ⟨w6.heap.size,2,none⟩=some (.int .i64 rb):=by rw[hwz];simp
 have s3:wz.cell? ⟨w6.heap.size,3,none⟩=some (.int .i64 rc):=by rw[hwz];simp
 have s4:wz.cell? ⟨w6.heap.size,4,none⟩=some (.string dto):=by rw[hwz];simp
 rw[←hwz];have hz:=Hm6.out.trans0 hmz;have hzP:=HH.out.keep0 hz;have q10:=hmz.cell r10 (fun e=>e);have q10f:=hzP.p.reg_free Hh.out (t*11+10);have hMp:Mod (fun k=>k=X.bL) wz (wz.setCell ⟨X.bL,t*11+10,none⟩ (.int .i64 ((h.pc:Int)+1))):=(Mod.refl (fun k=>k=X.bL) wz).setCell (fun _=>rfl) _
 have nb:∀j:Nat,¬(⟨w6.heap.size,j,none⟩:Addr).block=X.bL:=fun j (e:w6.heap.size=X.bL)=>by omega
 have z0:=hMp.cell s0 (nb 0);have z1:=hMp.cell s1 (nb 1);have z2:=hMp.cell s2 (nb 2);have z3:=hMp.cell s3 (nb 3);have z4:=hMp.cell s4 (nb 4);have hup:=(XUp.quiet HH.out.p hz).trans (hzP.p.setPcQ Hh.out (h.pc+1));rw[show ((h.pc+1:Nat):Int)=(h.pc:Int)+1 from by omega]at hup
 have hT1:(m.setPc t (h.pc+1)).T[t]?=some {h with pc:=h.pc+1}:=setPc_T Hh.out _;have HT1:=Lib.hid hT1;obtain ⟨wp,hwp⟩:∃wp,wp=wz.setCell ⟨X.bL,t*11+10,none⟩ (.int .i64 ((h.pc:Int)+1)):=⟨_,rfl⟩;rw[←hwp]at hup;have y0:=z0;have y1:=z1;have y2:=z2;have y3:=z3;have y4:=z4;rw[←hwp]at y0 y1 y2 y3 y4
 have hbp:w6.heap.size<wp.heap.size:=by rw[hwp];simpa using hbz
 have HU:=Lib.hid hup;have Hwp:=Lib.hid hwp;clear hz hzP hMp nb hup hT1 hwz hmz hwp s0 s1 s2 s3 s4 HS r0 r10 c0 c1 c2 c3 c4 hst r10f;have x0:=HU.out.rep.reg_at HT1.out ha;have xf0:=HU.out.rep.reg_free HT1.out (t*11+2+ra);have x1:=HU.out.rep.reg_at HT1.out hb
 have xf1:=HU.out.rep.reg_free HT1.out (t*11+2+rb);have x2:=HU.out.rep.reg_at HT1.out hc;have xf2:=HU.out.rep.reg_free HT1.out (t*11+2+rc);have xl:=(HU.out.rep.thr_at HT1.out).2.2;obtain ⟨va,hva⟩:∃x,h.regs.getD ra 0=x:=⟨_,rfl⟩
 rw[show ({h with pc:=h.pc+1}:Thr).regs.getD ra 0=h.regs.getD ra 0 from rfl,hva]at x0;obtain ⟨vb,hvb⟩:∃x,h.regs.getD rb 0=x:=⟨_,rfl⟩;rw[show ({h with pc:=h.pc+1}:Thr).regs.getD rb 0=h.regs.getD rb 0 from rfl,hvb]at x1;obtain ⟨vc,hvc⟩:∃x,h.regs.getD rc 0=x:=⟨_,rfl⟩
 rw[show ({h with pc:=h.pc+1}:Thr).regs.getD rc 0=h.regs.getD rc 0 from rfl,hvc]at x2;have wb:=HH.out.regW Hh.out hb;have wc:=HH.out.regW Hh.out hc;rw[hvb]at wb;rw[hvc]at wc;have Hsum:=Lib.hid (fun W=>psum_add vb vc wb wc W);clear wb wc;go_wp2;rw[←Hwp.out];clear z0 z1 z2 z3 z4
 refine wp_region_still_tail 20 (by kernel_rfl) (by kernel_rfl) ?_;simp only[List.take_succ_cons,List.take_zero,List.drop_succ_cons,List.drop_zero,World.drew_eq]
 repeat (first|still_step|still_call ((Hsum.out _).mono fun _ _ h=>⟨h.1,h.2.symm⟩))
 refine wpStill_nil ?_;go_wp2;go_ret;rw[hvb,hvc];exact ⟨rfl,vs,mv,(HU.out.trans (HU.out.rep.setRegQ HT1.out hh8 ha _)).then0 (by repeat (first|exact Mod.refl _ _|refine Mod.drew ?_|refine Mod.drewN ?_ _|refine Mod.alloc ?_ _))⟩
theorem pst_sub(H:PX w X vs mv m N)(hN:N≤900000000)(L:XLow b0 w a X vs mv){t:Nat}(ht:t<m.T.length){h:Thr}(hh:m.T[t]?=some h){ra rb rc:Nat}{to:List UInt8}(ha:ra<8)(hb:rb<8)(hc:rc<8)(hx:h.code[h.pc]?=some ⟨3,ra,rb,rc,to⟩) :
  Calls Tryz.prog 14 #[.pointer (some ⟨X.bX,0,none⟩),.int .i64 t] w fun e w'=>e=.returned .nilIface∧∃vs' mv',XUp w X vs mv m w' ((m.setPc t (h.pc+1)).setReg t ra (sum2 3 (h.regs.getD rb 0) (h.regs.getD rc 0))) vs' mv':=by
 have hthr:m.thr t=h:=by simp[M.thr,List.getD,hh]
 have hdone:m.done t=false:=by unfold M.done;rw[hthr,hx];rfl
 have hpd:=pdone_any H t ht;rw[hdone]at hpd;obtain ⟨t0,t1,-,-,-,t5⟩:=H.p.top_at;have ht6:=H.t6
 have d0:decide ((t:Int)<0)=false:=by simp
 have d1:decide ((m.T.length:Int)≤(t:Int))=false:=by simp;omega
 have d2:(t:Int)<(m.T.length:Int):=by omega
 have hh8:=(H.ot.regs t h hh).1;obtain ⟨hpc,hco⟩:=H.ot.code t h hh;have hlen:=hco.len;have hlt:h.pc<h.code.length:=(List.getElem?_eq_some_iff.1 hx).1
 have d3:(h.pc:Int)<(h.code.length:Int):=by omega
 have hwr:IntKind.i64.wrap ((h.pc:Int)+1)=(h.pc:Int)+1:=IntWalk.i64_in _ (by omega)
 have ira0:(0:Int)≤(ra:Int):=by omega
 have ira8:(ra:Int)<8:=by omega
 have irb0:(0:Int)≤(rb:Int):=by omega
 have irb8:(rb:Int)<8:=by omega
 have irc0:(0:Int)≤(rc:Int):=by omega
 have irc8:(rc:Int)<8:=by omega
 have HH:=Lib.hid H;have HL:=Lib.hid L;have Hh:=Lib.hid hh;have Hx:=Lib.hid hx;have Hpd:=Lib.hid hpd;have Hco:=Lib.hid hco;clear H L hh hx hpd hthr hdone hco
 go_enter Tryz.func14,Tryz.ntmps14
 go_wp2_with fail
 refine Hpd.out.mono ?_;rintro e w6 ⟨rfl,hm6⟩;have h6:=HH.out.keep0 hm6;obtain ⟨u0,u1,-,-,-,u5⟩:=h6.p.top_at;obtain ⟨r1,-,r3⟩:=h6.p.thr_at Hh.out;obtain ⟨cb,off,cc,e,hcb,hcell⟩:=pcode_cell h6.p Hh.out Hx.out;have r0:w6.cell? ⟨X.bL,t*11,none⟩=some (X.cv t):=r1 0 _ rfl;rw[e]at r0
 have r10:w6.cell? ⟨X.bL,t*11+10,none⟩=some (.int .i64 (h.pc:Nat)):=r1 10 _ rfl;have r10f:=h6.p.reg_free Hh.out (t*11+10);have c0:=hcell 0 _ rfl;have c1:=hcell 1 _ rfl;have c2:=hcell 2 _ rfl;have c3:=hcell 3 _ rfl;have c4:=hcell 4 _ rfl;have hcf:=(h6.p.code t h Hh.out).2 cb (by rw[e];rfl)
 have hcL:X.bL≠cb:=fun e=>hcf.1 (.inr (.inl e.symm));have hXl:X.bL<w6.heap.size:=r3;simp only[Nat.add_zero,opStr,iv,sv]at c0 c1 c2 c3 c4;generalize hd4:(⟨to.toArray⟩:ByteArray)=dto at *;have Hd4:=Lib.hid hd4;have H6:=Lib.hid h6;have Hm6:=Lib.hid hm6;have He:=Lib.hid e
 have hst:w6.cell? ⟨X.bL,t*11,none⟩=some (.slice (some ⟨cb,off,none⟩) h.code.length cc)∧w6.cell? ⟨X.bL,t*11+10,none⟩=some (.int .i64 (h.pc:Nat))∧w6.cell? ⟨cb,off+h.pc*5,none⟩=some (.string ⟨#[115,117,98]⟩)∧w6.cell? ⟨cb,off+h.pc*5+1,none⟩=some (.int .i64 ra)∧w6.cell? ⟨cb,off+h.pc*5+2,none⟩=some (.int .i64 rb)∧w6.cell? ⟨cb,off+h.pc*5+3,none⟩=some (.int .i64 rc)∧w6.cell? ⟨cb,off+h.pc*5+4,none⟩=some (.string dto):=⟨r0,r10,c0,c1,c2,c3,c4⟩
 have hS:∀W,Mod noF w6 W→W.cell? ⟨X.bL,t*11,none⟩=some (.slice (some ⟨cb,off,none⟩) h.code.length cc)∧W.cell? ⟨X.bL,t*11+10,none⟩=some (.int .i64 (h.pc:Nat))∧W.cell? ⟨cb,off+h.pc*5,none⟩=some (.string ⟨#[115,117,98]⟩)∧W.cell? ⟨cb,off+h.pc*5+1,none⟩=some (.int .i64 ra)∧W.cell? ⟨cb,off+h.pc*5+2,none⟩=some (.int .i64 rb)∧W.cell? ⟨cb,off+h.pc*5+3,none⟩=some (.int .i64 rc)∧W.cell? ⟨cb,off+h.pc*5+4,none⟩=some (.string dto):=fun W hW=>⟨hW.cell r0 (fun e=>e),hW.cell r10 (fun e=>e),hW.cell c0 (fun e=>e),hW.cell c1 (fun e=>e),hW.cell c2 (fun e=>e),hW.cell c3 (fun e=>e),hW.cell c4 (fun e=>e)⟩
 have HS:=Lib.hid hS;clear h6 hm6 e hcell r1 hd4 hcf t0 t1 t5 hS;go_wp2
 go_region_held3 (fun W=>W.cell? ⟨X.bL,t*11,none⟩=some (.slice (some ⟨cb,off,none⟩) h.code.length cc)∧W.cell? ⟨X.bL,t*11+10,none⟩=some (.int .i64 (h.pc:Nat))∧W.cell? ⟨cb,off+h.pc*5,none⟩=some (.string ⟨#[115,117,98]⟩)∧W.cell? ⟨cb,off+h.pc*5+1,none⟩=some (.int .i64 ra)∧W.cell? ⟨cb,off+h.pc*5+2,none⟩=some (.int .i64 rb)∧W.cell? ⟨cb,off+h.pc*5+3,none⟩=some (.int .i64 rc)∧W.cell? ⟨cb,off+h.pc*5+4,none⟩=some (.string dto)) ((first|assumption|(refine HS.out _ ?_;repeat (first|exact Mod.refl _ _|refine Mod.drew ?_|refine Mod.alloc ?_ _|refine mod_set1 ?_ (Nat.le_refl _) _ _)))) (first|fail)
 obtain ⟨wz,hwz⟩:∃wz,wz=w6.alloc (.cells #[.string ⟨#[115,117,98]⟩,.int .i64 ra,.int .i64 rb,.int .i64 rc,.string dto] 73):=⟨_,rfl⟩
 have hmz:Mod noF w6 wz:=by rw[hwz];exact (Mod.refl noF w6).alloc _
 have hbz:w6.heap.size<wz.heap.size:=by rw[hwz];simp
 have s0:wz.cell? ⟨w6.heap.size,0,none⟩=some (.string ⟨#[115,117,98]⟩):=by rw[hwz];simp
 have s1:wz.cell? ⟨w6.heap.size,1,none⟩=some (.int .i64 ra):=by rw[hwz];simp
 have s2:wz.cell? ⟨w6.heap.size,2,none⟩=some (.int .i64 rb):=by rw[hwz];simp
 have s3:wz.cell? ⟨w6.heap.size,3,none⟩=some (.int .i64 rc):=by rw[hwz];simp
 have s4:wz.cell? ⟨w6.heap.size,4,none⟩=some (.string dto):=by rw[hwz];simp
 rw[←hwz];have hz:=Hm6.out.trans0 hmz;have hzP:=HH.out.keep0 hz;have q10:=hmz.cell r10 (fun e=>e);have q10f:=hzP.p.reg_free Hh.out (t*11+10);have hMp:Mod (fun k=>k=X.bL) wz (wz.setCell ⟨X.bL,t*11+10,none⟩ (.int .i64 ((h.pc:Int)+1))):=(Mod.refl (fun k=>k=X.bL) wz).setCell (fun _=>rfl) _
 have nb:∀j:Nat,¬(⟨w6.heap.size,j,none⟩:Addr).block=X.bL:=fun j (e:w6.heap.size=X.bL)=>by omega
 have z0:=hMp.cell s0 (nb 0);have z1:=hMp.cell s1 (nb 1);have z2:=hMp.cell s2 (nb 2);have z3:=hMp.cell s3 (nb 3);have z4:=hMp.cell s4 (nb 4);have hup:=(XUp.quiet HH.out.p hz).trans (hzP.p.setPcQ Hh.out (h.pc+1));rw[show ((h.pc+1:Nat):Int)=(h.pc:Int)+1 from by omega]at hup
 have hT1:(m.setPc t (h.pc+1)).T[t]?=some {h with pc:=h.pc+1}:=setPc_T Hh.out _;have HT1:=Lib.hid hT1;obtain ⟨wp,hwp⟩:∃wp,wp=wz.setCell ⟨X.bL,t*11+10,none⟩ (.int .i64 ((h.pc:Int)+1)):=⟨_,rfl⟩;rw[←hwp]at hup;have y0:=z0;have y1:=z1;have y2:=z2;have y3:=z3;have y4:=z4;rw[←hwp]at y0 y1 y2 y3 y4
 have hbp:w6.heap.size<wp.heap.size:=by rw[hwp];simpa using hbz
 have HU:=Lib.hid hup;have Hwp:=Lib.hid hwp;clear hz hzP hMp nb hup hT1 hwz hmz hwp s0 s1 s2 s3 s4 HS r0 r10 c0 c1 c2 c3 c4 hst r10f;have x0:=HU.out.rep.reg_at HT1.out ha;have xf0:=HU.out.rep.reg_free HT1.out (t*11+2+ra);have x1:=HU.out.rep.reg_at HT1.out hb
 have xf1:=HU.out.rep.reg_free HT1.out (t*11+2+rb);have x2:=HU.out.rep.reg_at HT1.out hc;have xf2:=HU.out.rep.reg_free HT1.out (t*11+2+rc);have xl:=(HU.out.rep.thr_at HT1.out).2.2;obtain ⟨va,hva⟩:∃x,h.regs.getD ra 0=x:=⟨_,rfl⟩
 rw[show ({h with pc:=h.pc+1}:Thr).regs.getD ra 0=h.regs.getD ra 0 from rfl,hva]at x0;obtain ⟨vb,hvb⟩:∃x,h.regs.getD rb 0=x:=⟨_,rfl⟩;rw[show ({h with pc:=h.pc+1}:Thr).regs.getD rb 0=h.regs.getD rb 0 from rfl,hvb]at x1;obtain ⟨vc,hvc⟩:∃x,h.regs.getD rc 0=x:=⟨_,rfl⟩
 rw[show ({h with pc:=h.pc+1}:Thr).regs.getD rc 0=h.regs.getD rc 0 from rfl,hvc]at x2;have wb:=HH.out.regW Hh.out hb;have wc:=HH.out.regW Hh.out hc;rw[hvb]at wb;rw[hvc]at wc;have Hsum:=Lib.hid (fun W=>psum_sub vb vc wb wc W);clear wb wc;go_wp2;rw[←Hwp.out];clear z0 z1 z2 z3 z4
 refine wp_region_still_tail 20 (by kernel_rfl) (by kernel_rfl) ?_;simp only[List.take_succ_cons,List.take_zero,List.drop_succ_cons,List.drop_zero,World.drew_eq]
 repeat (first|still_step|still_call ((Hsum.out _).mono fun _ _ h=>⟨h.1,h.2.symm⟩))
 refine wpStill_nil ?_;go_wp2;go_ret;rw[hvb,hvc];exact ⟨rfl,vs,mv,(HU.out.trans (HU.out.rep.setRegQ HT1.out hh8 ha _)).then0 (by repeat (first|exact Mod.refl _ _|refine Mod.drew ?_|refine Mod.drewN ?_ _|refine Mod.alloc ?_ _))⟩
theorem pst_and(H:PX w X vs mv m N)(hN:N≤900000000)(L:XLow b0 w a X vs mv){t:Nat}(ht:t<m.T.length){h:Thr}(hh:m.T[t]?=some h){ra rb rc:Nat}{to:List UInt8}(ha:ra<8)(hb:rb<8)(hc:rc<8)(hx:h.code[h.pc]?=some ⟨4,ra,rb,rc,to⟩) :
  Calls Tryz.prog 14 #[.pointer (some ⟨X.bX,0,none⟩),.int .i64 t] w fun e w'=>e=.returned .nilIface∧∃vs' mv',XUp w X vs mv m w' ((m.setPc t (h.pc+1)).setReg t ra (sum2 4 (h.regs.getD rb 0) (h.regs.getD rc 0))) vs' mv':=by
 have hthr:m.thr t=h:=by simp[M.thr,List.getD,hh]
 have hdone:m.done t=false:=by unfold M.done;rw[hthr,hx];rfl
 have hpd:=pdone_any H t ht;rw[hdone]at hpd;obtain ⟨t0,t1,-,-,-,t5⟩:=H.p.top_at;have ht6:=H.t6
 have d0:decide ((t:Int)<0)=false:=by simp
 have d1:decide ((m.T.length:Int)≤(t:Int))=false:=by simp;omega
 have d2:(t:Int)<(m.T.length:Int):=by omega
 have hh8:=(H.ot.regs t h hh).1;obtain ⟨hpc,hco⟩:=H.ot.code t h hh;have hlen:=hco.len;have hlt:h.pc<h.code.length:=(List.getElem?_eq_some_iff.1 hx).1
 have d3:(h.pc:Int)<(h.code.length:Int):=by omega
 have hwr:IntKind.i64.wrap ((h.pc:Int)+1)=(h.pc:Int)+1:=IntWalk.i64_in _ (by omega)
 have ira0:(0:Int)≤(ra:Int):=by omega
 have ira8:(ra:Int)<8:=by omega
 have irb0:(0:Int)≤(rb:Int):=by omega
 have irb8:(rb:Int)<8:=by omega
 have irc0:(0:Int)≤(rc:Int):=by omega
 have irc8:(rc:Int)<8:=by omega
 have HH:=Lib.hid H;have HL:=Lib.hid L;have Hh:=Lib.hid hh;have Hx:=Lib.hid hx;have Hpd:=Lib.hid hpd;have Hco:=Lib.hid hco;clear H L hh hx hpd hthr hdone hco
 go_enter Tryz.func14,Tryz.ntmps14
 go_wp2_with fail
 refine Hpd.out.mono ?_;rintro e w6 ⟨rfl,hm6⟩;have h6:=HH.out.keep0 hm6;obtain ⟨u0,u1,-,-,-,u5⟩:=h6.p.top_at;obtain ⟨r1,-,r3⟩:=h6.p.thr_at Hh.out;obtain ⟨cb,off,cc,e,hcb,hcell⟩:=pcode_cell h6.p Hh.out Hx.out;have r0:w6.cell? ⟨X.bL,t*11,none⟩=some (X.cv t):=r1 0 _ rfl;rw[e]at r0
 have r10:w6.cell? ⟨X.bL,t*11+10,none⟩=some (.int .i64 (h.pc:Nat)):=r1 10 _ rfl;have r10f:=h6.p.reg_free Hh.out (t*11+10);have c0:=hcell 0 _ rfl;have c1:=hcell 1 _ rfl;have c2:=hcell 2 _ rfl;have c3:=hcell 3 _ rfl;have c4:=hcell 4 _ rfl;have hcf:=(h6.p.code t h Hh.out).2 cb (by rw[e];rfl)
 have hcL:X.bL≠cb:=fun e=>hcf.1 (.inr (.inl e.symm));have hXl:X.bL<w6.heap.size:=r3;simp only[Nat.add_zero,opStr,iv,sv]at c0 c1 c2 c3 c4;generalize hd4:(⟨to.toArray⟩:ByteArray)=dto at *;have Hd4:=Lib.hid hd4;have H6:=Lib.hid h6;have Hm6:=Lib.hid hm6;have He:=Lib.hid e
 have hst:w6.cell? ⟨X.bL,t*11,none⟩=some (.slice (some ⟨cb,off,none⟩) h.code.length cc)∧w6.cell? ⟨X.bL,t*11+10,none⟩=some (.int .i64 (h.pc:Nat))∧w6.cell? ⟨cb,off+h.pc*5,none⟩=some (.string ⟨#[97,110,100]⟩)∧w6.cell? ⟨cb,off+h.pc*5+1,none⟩=some (.int .i64 ra)∧w6.cell? ⟨cb,off+h.pc*5+2,none⟩=some (.int .i64 rb)∧w6.cell? ⟨cb,off+h.pc*5+3,none⟩=some (.int .i64 rc)∧w6.cell? ⟨cb,off+h.pc*5+4,none⟩=some (.string dto):=⟨r0,r10,c0,c1,c2,c3,c4⟩
 have hS:∀W,Mod noF w6 W→W.cell? ⟨X.bL,t*11,none⟩=some (.slice (some ⟨cb,off,none⟩) h.code.length cc)∧W.cell? ⟨X.bL,t*11+10,none⟩=some (.int .i64 (h.pc:Nat))∧W.cell? ⟨cb,off+h.pc*5,none⟩=some (.string ⟨#[97,110,100]⟩)∧W.cell? ⟨cb,off+h.pc*5+1,none⟩=some (.int .i64 ra)∧W.cell? ⟨cb,off+h.pc*5+2,none⟩=some (.int .i64 rb)∧W.cell? ⟨cb,off+h.pc*5+3,none⟩=some (.int .i64 rc)∧W.cell? ⟨cb,off+h.pc*5+4,none⟩=some (.string dto):=fun W hW=>⟨hW.cell r0 (fun e=>e),hW.cell r10 (fun e=>e),hW.cell c0 (fun e=>e),hW.cell c1 (fun e=>e),hW.cell c2 (fun e=>e),hW.cell c3 (fun e=>e),hW.cell c4 (fun e=>e)⟩
 have HS:=Lib.hid hS;clear h6 hm6 e hcell r1 hd4 hcf t0 t1 t5 hS;go_wp2
 go_region_held3 (fun W=>W.cell? ⟨X.bL,t*11,none⟩=some (.slice (some ⟨cb,off,none⟩) h.code.length cc)∧W.cell? ⟨X.bL,t*11+10,none⟩=some (.int .i64 (h.pc:Nat))∧W.cell? ⟨cb,off+h.pc*5,none⟩=some (.string ⟨#[97,110,100]⟩)∧W.cell? ⟨cb,off+h.pc*5+1,none⟩=some (.int .i64 ra)∧W.cell? ⟨cb,off+h.pc*5+2,none⟩=some (.int .i64 rb)∧W.cell? ⟨cb,off+h.pc*5+3,none⟩=some (.int .i64 rc)∧W.cell? ⟨cb,off+h.pc*5+4,none⟩=some (.string dto)) ((first|assumption|(refine HS.out _ ?_;repeat (first|exact Mod.refl _ _|refine Mod.drew ?_|refine Mod.alloc ?_ _|refine mod_set1 ?_ (Nat.le_refl _) _ _)))) (first|fail)
 obtain ⟨wz,hwz⟩:∃wz,wz=w6.alloc (.cells #[.string ⟨#[97,110,100]⟩,.int .i64 ra,.int .i64 rb,.int .i64 rc,.string dto] 73):=⟨_,rfl⟩
 have hmz:Mod noF w6 wz:=by rw[hwz];exact (Mod.refl noF w6).alloc _
 have hbz:w6.heap.size<wz.heap.size:=by rw[hwz];simp
 have s0:wz.cell? ⟨w6.heap.size,0,none⟩=some (.string ⟨#[97,110,100]⟩):=by rw[hwz];simp
 have s1:wz.cell? ⟨w6.heap.size,1,none⟩=some (.int .i64 ra):=by rw[hwz];simp
 have s2:wz.cell? ⟨w6.heap.size,2,none⟩=some (.int .i64 rb):=by rw[hwz];simp
 have s3:wz.cell? ⟨w6.heap.size,3,none⟩=some (.int .i64 rc):=by rw[hwz];simp
 have s4:wz.cell? ⟨w6.heap.size,4,none⟩=some (.string dto):=by rw[hwz];simp
 rw[←hwz];have hz:=Hm6.out.trans0 hmz;have hzP:=HH.out.keep0 hz;have q10:=hmz.cell r10 (fun e=>e);have q10f:=hzP.p.reg_free Hh.out (t*11+10);have hMp:Mod (fun k=>k=X.bL) wz (wz.setCell ⟨X.bL,t*11+10,none⟩ (.int .i64 ((h.pc:Int)+1))):=(Mod.refl (fun k=>k=X.bL) wz).setCell (fun _=>rfl) _
 have nb:∀j:Nat,¬(⟨w6.heap.size,j,none⟩:Addr).block=X.bL:=fun j (e:w6.heap.size=X.bL)=>by omega
 have z0:=hMp.cell s0 (nb 0);have z1:=hMp.cell s1 (nb 1);have z2:=hMp.cell s2 (nb 2);have z3:=hMp.cell s3 (nb 3);have z4:=hMp.cell s4 (nb 4);have hup:=(XUp.quiet HH.out.p hz).trans (hzP.p.setPcQ Hh.out (h.pc+1));rw[show ((h.pc+1:Nat):Int)=(h.pc:Int)+1 from by omega]at hup
 have hT1:(m.setPc t (h.pc+1)).T[t]?=some {h with pc:=h.pc+1}:=setPc_T Hh.out _;have HT1:=Lib.hid hT1;obtain ⟨wp,hwp⟩:∃wp,wp=wz.setCell ⟨X.bL,t*11+10,none⟩ (.int .i64 ((h.pc:Int)+1)):=⟨_,rfl⟩;rw[←hwp]at hup;have y0:=z0;have y1:=z1;have y2:=z2;have y3:=z3;have y4:=z4;rw[←hwp]at y0 y1 y2 y3 y4
 have hbp:w6.heap.size<wp.heap.size:=by rw[hwp];simpa using hbz
 have HU:=Lib.hid hup;have Hwp:=Lib.hid hwp;clear hz hzP hMp nb hup hT1 hwz hmz hwp s0 s1 s2 s3 s4 HS r0 r10 c0 c1 c2 c3 c4 hst r10f;have x0:=HU.out.rep.reg_at HT1.out ha;have xf0:=HU.out.rep.reg_free HT1.out (t*11+2+ra);have x1:=HU.out.rep.reg_at HT1.out hb
 have xf1:=HU.out.rep.reg_free HT1.out (t*11+2+rb);have x2:=HU.out.rep.reg_at HT1.out hc;have xf2:=HU.out.rep.reg_free HT1.out (t*11+2+rc);have xl:=(HU.out.rep.thr_at HT1.out).2.2;obtain ⟨va,hva⟩:∃x,h.regs.getD ra 0=x:=⟨_,rfl⟩
 rw[show ({h with pc:=h.pc+1}:Thr).regs.getD ra 0=h.regs.getD ra 0 from rfl,hva]at x0;obtain ⟨vb,hvb⟩:∃x,h.regs.getD rb 0=x:=⟨_,rfl⟩;rw[show ({h with pc:=h.pc+1}:Thr).regs.getD rb 0=h.regs.getD rb 0 from rfl,hvb]at x1;obtain ⟨vc,hvc⟩:∃x,h.regs.getD rc 0=x:=⟨_,rfl⟩
 rw[show ({h with pc:=h.pc+1}:Thr).regs.getD rc 0=h.regs.getD rc 0 from rfl,hvc]at x2;have wb:=HH.out.regW Hh.out hb;have wc:=HH.out.regW Hh.out hc;rw[hvb]at wb;rw[hvc]at wc;have Hsum:=Lib.hid (fun W=>psum_and vb vc wb wc W);clear wb wc;go_wp2;rw[←Hwp.out];clear z0 z1 z2 z3 z4
 refine wp_region_still_tail 20 (by kernel_rfl) (by kernel_rfl) ?_;simp only[List.take_succ_cons,List.take_zero,List.drop_succ_cons,List.drop_zero,World.drew_eq]
 repeat (first|still_step|still_call ((Hsum.out _).mono fun _ _ h=>⟨h.1,h.2.symm⟩))
 refine wpStill_nil ?_;go_wp2;go_ret;rw[hvb,hvc];exact ⟨rfl,vs,mv,(HU.out.trans (HU.out.rep.setRegQ HT1.out hh8 ha _)).then0 (by repeat (first|exact Mod.refl _ _|refine Mod.drew ?_|refine Mod.drewN ?_ _|refine Mod.alloc ?_ _))⟩
theorem pst_xor(H:PX w X vs mv m N)(hN:N≤900000000)(L:XLow b0 w a X vs mv){t:Nat}(ht:t<m.T.length){h:Thr}(hh:m.T[t]?=some h){ra rb rc:Nat}{to:List UInt8}(ha:ra<8)(hb:rb<8)(hc:rc<8)(hx:h.code[h.pc]?=some ⟨5,ra,rb,rc,to⟩) :
  Calls Tryz.prog 14 #[.pointer (some ⟨X.bX,0,none⟩),.int .i64 t] w fun e w'=>e=.returned .nilIface∧∃vs' mv',XUp w X vs mv m w' ((m.setPc t (h.pc+1)).setReg t ra (sum2 5 (h.regs.getD rb 0) (h.regs.getD rc 0))) vs' mv':=by
 have hthr:m.thr t=h:=by simp[M.thr,List.getD,hh]
 have hdone:m.done t=false:=by unfold M.done;rw[hthr,hx];rfl
 have hpd:=pdone_any H t ht;rw[hdone]at hpd;obtain ⟨t0,t1,-,-,-,t5⟩:=H.p.top_at;have ht6:=H.t6
 have d0:decide ((t:Int)<0)=false:=by simp
 have d1:decide ((m.T.length:Int)≤(t:Int))=false:=by simp;omega
 have d2:(t:Int)<(m.T.length:Int):=by omega
 have hh8:=(H.ot.regs t h hh).1;obtain ⟨hpc,hco⟩:=H.ot.code t h hh;have hlen:=hco.len;have hlt:h.pc<h.code.length:=(List.getElem?_eq_some_iff.1 hx).1
 have d3:(h.pc:Int)<(h.code.length:Int):=by omega
 have hwr:IntKind.i64.wrap ((h.pc:Int)+1)=(h.pc:Int)+1:=IntWalk.i64_in _ (by omega)
 have ira0:(0:Int)≤(ra:Int):=by omega
 have ira8:(ra:Int)<8:=by omega
 have irb0:(0:Int)≤(rb:Int):=by omega
 have irb8:(rb:Int)<8:=by omega
 have irc0:(0:Int)≤(rc:Int):=by omega
 have irc8:(rc:Int)<8:=by omega
 have HH:=Lib.hid H;have HL:=Lib.hid L;have Hh:=Lib.hid hh;have Hx:=Lib.hid hx;have Hpd:=Lib.hid hpd;have Hco:=Lib.hid hco;clear H L hh hx hpd hthr hdone hco
 go_enter Tryz.func14,Tryz.ntmps14
 go_wp2_with fail
 refine Hpd.out.mono ?_;rintro e w6 ⟨rfl,hm6⟩;have h6:=HH.out.keep0 hm6;obtain ⟨u0,u1,-,-,-,u5⟩:=h6.p.top_at;obtain ⟨r1,-,r3⟩:=h6.p.thr_at Hh.out;obtain ⟨cb,off,cc,e,hcb,hcell⟩:=pcode_cell h6.p Hh.out Hx.out;have r0:w6.cell? ⟨X.bL,t*11,none⟩=some (X.cv t):=r1 0 _ rfl;rw[e]at r0
 have r10:w6.cell? ⟨X.bL,t*11+10,none⟩=some (.int .i64 (h.pc:Nat)):=r1 10 _ rfl;have r10f:=h6.p.reg_free Hh.out (t*11+10);have c0:=hcell 0 _ rfl;have c1:=hcell 1 _ rfl;have c2:=hcell 2 _ rfl;have c3:=hcell 3 _ rfl;have c4:=hcell 4 _ rfl;have hcf:=(h6.p.code t h Hh.out).2 cb (by rw[e];rfl)
 have hcL:X.bL≠cb:=fun e=>hcf.1 (.inr (.inl e.symm));have hXl:X.bL<w6.heap.size:=r3;simp only[Nat.add_zero,opStr,iv,sv]at c0 c1 c2 c3 c4;generalize hd4:(⟨to.toArray⟩:ByteArray)=dto at *;have Hd4:=Lib.hid hd4;have H6:=Lib.hid h6;have Hm6:=Lib.hid hm6;have He:=Lib.hid e
 have hst:w6.cell? ⟨X.bL,t*11,none⟩=some (.slice (some ⟨cb,off,none⟩) h.code.length cc)∧w6.cell? ⟨X.bL,t*11+10,none⟩=some (.int .i64 (h.pc:Nat))∧w6.cell? ⟨cb,off+h.pc*5,none⟩=some (.string ⟨#[120,111,114]⟩)∧w6.cell? ⟨cb,off+h.pc*5+1,none⟩=some (.int .i64 ra)∧w6.cell? ⟨cb,off+h.pc*5+2,none⟩=some (.int .i64 rb)∧w6.cell? ⟨cb,off+h.pc*5+3,none⟩=some (.int .i64 rc)∧w6.cell? ⟨cb,off+h.pc*5+4,none⟩=some (.string dto):=⟨r0,r10,c0,c1,c2,c3,c4⟩
 have hS:∀W,Mod noF w6 W→W.cell? ⟨X.bL,t*11,none⟩=some (.slice (some ⟨cb,off,none⟩) h.code.length cc)∧W.cell? ⟨X.bL,t*11+10,none⟩=some (.int .i64 (h.pc:Nat))∧W.cell? ⟨cb,off+h.pc*5,none⟩=some (.string ⟨#[120,111,114]⟩)∧W.cell? ⟨cb,off+h.pc*5+1,none⟩=some (.int .i64 ra)∧W.cell? ⟨cb,off+h.pc*5+2,none⟩=some (.int .i64 rb)∧W.cell? ⟨cb,off+h.pc*5+3,none⟩=some (.int .i64 rc)∧W.cell? ⟨cb,off+h.pc*5+4,none⟩=some (.string dto):=fun W hW=>⟨hW.cell r0 (fun e=>e),hW.cell r10 (fun e=>e),hW.cell c0 (fun e=>e),hW.cell c1 (fun e=>e),hW.cell c2 (fun e=>e),hW.cell c3 (fun e=>e),hW.cell c4 (fun e=>e)⟩
 have HS:=Lib.hid hS;clear h6 hm6 e hcell r1 hd4 hcf t0 t1 t5 hS;go_wp2
 go_region_held3 (fun W=>W.cell? ⟨X.bL,t*11,none⟩=some (.slice (some ⟨cb,off,none⟩) h.code.length cc)∧W.cell? ⟨X.bL,t*11+10,none⟩=some (.int .i64 (h.pc:Nat))∧W.cell? ⟨cb,off+h.pc*5,none⟩=some (.string ⟨#[120,111,114]⟩)∧W.cell? ⟨cb,off+h.pc*5+1,none⟩=some (.int .i64 ra)∧W.cell? ⟨cb,off+h.pc*5+2,none⟩=some (.int .i64 rb)∧W.cell? ⟨cb,off+h.pc*5+3,none⟩=some (.int .i64 rc)∧W.cell? ⟨cb,off+h.pc*5+4,none⟩=some (.string dto)) ((first|assumption|(refine HS.out _ ?_;repeat (first|exact Mod.refl _ _|refine Mod.drew ?_|refine Mod.alloc ?_ _|refine mod_set1 ?_ (Nat.le_refl _) _ _)))) (first|fail)
 obtain ⟨wz,hwz⟩:∃wz,wz=w6.alloc (.cells #[.string ⟨#[120,111,114]⟩,.int .i64 ra,.int .i64 rb,.int .i64 rc,.string dto] 73):=⟨_,rfl⟩
 have hmz:Mod noF w6 wz:=by rw[hwz];exact (Mod.refl noF w6).alloc _
 have hbz:w6.heap.size<wz.heap.size:=by rw[hwz];simp
 have s0:wz.cell? ⟨w6.heap.size,0,none⟩=some (.string ⟨#[120,111,114]⟩):=by rw[hwz];simp
 have s1:wz.cell? ⟨w6.heap.size,1,none⟩=some (.int .i64 ra):=by rw[hwz];simp
 have s2:wz.cell? ⟨w6.heap.size,2,none⟩=some (.int .i64 rb):=by rw[hwz];simp
 have s3:wz.cell? ⟨w6.heap.size,3,none⟩=some (.int .i64 rc):=by rw[hwz];simp
 have s4:wz.cell? ⟨w6.heap.size,4,none⟩=some (.string dto):=by rw[hwz];simp
 rw[←hwz];have hz:=Hm6.out.trans0 hmz;have hzP:=HH.out.keep0 hz;have q10:=hmz.cell r10 (fun e=>e);have q10f:=hzP.p.reg_free Hh.out (t*11+10);have hMp:Mod (fun k=>k=X.bL) wz (wz.setCell ⟨X.bL,t*11+10,none⟩ (.int .i64 ((h.pc:Int)+1))):=(Mod.refl (fun k=>k=X.bL) wz).setCell (fun _=>rfl) _
 have nb:∀j:Nat,¬(⟨w6.heap.size,j,none⟩:Addr).block=X.bL:=fun j (e:w6.heap.size=X.bL)=>by omega
 have z0:=hMp.cell s0 (nb 0);have z1:=hMp.cell s1 (nb 1);have z2:=hMp.cell s2 (nb 2);have z3:=hMp.cell s3 (nb 3);have z4:=hMp.cell s4 (nb 4);have hup:=(XUp.quiet HH.out.p hz).trans (hzP.p.setPcQ Hh.out (h.pc+1));rw[show ((h.pc+1:Nat):Int)=(h.pc:Int)+1 from by omega]at hup
 have hT1:(m.setPc t (h.pc+1)).T[t]?=some {h with pc:=h.pc+1}:=setPc_T Hh.out _;have HT1:=Lib.hid hT1;obtain ⟨wp,hwp⟩:∃wp,wp=wz.setCell ⟨X.bL,t*11+10,none⟩ (.int .i64 ((h.pc:Int)+1)):=⟨_,rfl⟩;rw[←hwp]at hup;have y0:=z0;have y1:=z1;have y2:=z2;have y3:=z3;have y4:=z4;rw[←hwp]at y0 y1 y2 y3 y4
 have hbp:w6.heap.size<wp.heap.size:=by rw[hwp];simpa using hbz
 have HU:=Lib.hid hup;have Hwp:=Lib.hid hwp;clear hz hzP hMp nb hup hT1 hwz hmz hwp s0 s1 s2 s3 s4 HS r0 r10 c0 c1 c2 c3 c4 hst r10f;have x0:=HU.out.rep.reg_at HT1.out ha;have xf0:=HU.out.rep.reg_free HT1.out (t*11+2+ra);have x1:=HU.out.rep.reg_at HT1.out hb
 have xf1:=HU.out.rep.reg_free HT1.out (t*11+2+rb);have x2:=HU.out.rep.reg_at HT1.out hc;have xf2:=HU.out.rep.reg_free HT1.out (t*11+2+rc);have xl:=(HU.out.rep.thr_at HT1.out).2.2;obtain ⟨va,hva⟩:∃x,h.regs.getD ra 0=x:=⟨_,rfl⟩
 rw[show ({h with pc:=h.pc+1}:Thr).regs.getD ra 0=h.regs.getD ra 0 from rfl,hva]at x0;obtain ⟨vb,hvb⟩:∃x,h.regs.getD rb 0=x:=⟨_,rfl⟩;rw[show ({h with pc:=h.pc+1}:Thr).regs.getD rb 0=h.regs.getD rb 0 from rfl,hvb]at x1;obtain ⟨vc,hvc⟩:∃x,h.regs.getD rc 0=x:=⟨_,rfl⟩
 rw[show ({h with pc:=h.pc+1}:Thr).regs.getD rc 0=h.regs.getD rc 0 from rfl,hvc]at x2;have wb:=HH.out.regW Hh.out hb;have wc:=HH.out.regW Hh.out hc;rw[hvb]at wb;rw[hvc]at wc;have Hsum:=Lib.hid (fun W=>psum_xor vb vc wb wc W);clear wb wc;go_wp2;rw[←Hwp.out];clear z0 z1 z2 z3 z4
 refine wp_region_still_tail 20 (by kernel_rfl) (by kernel_rfl) ?_;simp only[List.take_succ_cons,List.take_zero,List.drop_succ_cons,List.drop_zero,World.drew_eq]
 repeat (first|still_step|still_call ((Hsum.out _).mono fun _ _ h=>⟨h.1,h.2.symm⟩))
 refine wpStill_nil ?_;go_wp2;go_ret;rw[hvb,hvc];exact ⟨rfl,vs,mv,(HU.out.trans (HU.out.rep.setRegQ HT1.out hh8 ha _)).then0 (by repeat (first|exact Mod.refl _ _|refine Mod.drew ?_|refine Mod.drewN ?_ _|refine Mod.alloc ?_ _))⟩
end Go.Proofs.YtciaficoeajeaaaGreatDoor
