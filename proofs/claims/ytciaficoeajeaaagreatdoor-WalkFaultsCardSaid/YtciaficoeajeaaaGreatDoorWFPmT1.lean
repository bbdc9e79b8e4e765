/- mach.touch: load. -/
import Derived.Test.YtciaficoeajeaaaGreatDoorWFm10
set_option linter.unusedVariables false
set_option linter.unusedSimpArgs false
set_option linter.unusedSectionVars false
set_option maxHeartbeats 4000000
set_option maxRecDepth 100000
namespace Go.Proofs.YtciaficoeajeaaaGreatDoor
open Go.RowKit Qs Qh
variable {w w1 w2 w' b0:World}{X:XB}{vs vs':List Value}{mv mv':Value}{m m':M}{N:Int}{a:Nat→Addr}
theorem ptouch_load_ok(H:PX w X vs mv m N)(hN:N≤1000000000)(L:XLow b0 w a X vs mv){t:Nat}(ht:t<m.T.length){h:Thr}(hh:m.T[t]?=some h)(h8:h.regs.length=8){ra rb rc:Nat}{to:ByteArray}(ha:ra<8)(hb:rb<8)(hc:rc<4){c g:Int}(hn:m.names (h.regs.getD rb 0)=some (c,g)) :
  Calls Tryz.prog 47 #[.pointer (some ⟨X.bX,0,none⟩),.int .i64 t,insV 6 ra rb rc to] w fun e w'=>e=.returned (.tuple #[])∧∃vs',XUp w X vs mv m w' (m.setReg t ra (Qs.look (m.waitsOf t) c g rc (getWord m.cells c.toNat rc))) vs' mv:=by
 obtain ⟨t0,-,-,-,-,t5⟩:=H.p.top_at;obtain ⟨_,t1,-⟩:=H.p.top_at;have r5:=H.p.reg_at hh hb;have wb:=H.regW hh hb;have hl5:=(H.p.thr_at hh).2.2;have ht6:=H.t6
 have ia0:(0:Int)≤(ra:Int):=by omega
 have ia8:(ra:Int)<8:=by omega
 have ib0:(0:Int)≤(rb:Int):=by omega
 have ib8:(rb:Int)<8:=by omega
 have Hreg:=Lib.hid (fun (W:World) (m1:M) (vs1:List Value) (P:PMach W X vs1 mv m1) (hT:m1.T=m.T)=>(show m1.T[t]?=some h by rw[hT];exact hh));generalize hvb:h.regs.getD rb 0=vb at *;have HH:=Lib.hid H;have HL:=Lib.hid L;have Hh:=Lib.hid hh;have Hn:=Lib.hid hn;have Hwb:=Lib.hid wb
 have Hvb:=Lib.hid hvb;clear H L hh hn wb hvb;unfold insV;simp only[opStr]
 go_enter Tryz.func47,Tryz.ntmps47
 go_wp2;obtain ⟨wn,hwn⟩:∃wn,wn=w.alloc (.cells #[.string ⟨#[108,111,97,100]⟩,.int .i64 ra,.int .i64 rb,.int .i64 rc,.string to] 73):=⟨_,rfl⟩
 have hmn:Mod noF w wn:=by rw[hwn];exact (Mod.refl noF w).alloc _
 have s1:wn.cell? ⟨w.heap.size,1,none⟩=some (.int .i64 ra):=by rw[hwn];simp
 have s2:wn.cell? ⟨w.heap.size,2,none⟩=some (.int .i64 rb):=by rw[hwn];simp
 have s3:wn.cell? ⟨w.heap.size,3,none⟩=some (.int .i64 rc):=by rw[hwn];simp
 have hxl:w.heap.size<wn.heap.size:=by rw[hwn];simp
 have hxw:¬XFoot X vs mv w.heap.size:=fun e=>by have:=HH.out.p.lt e;omega
 have p0:=hmn.cell t0 (fun e=>e);have p5:=hmn.cell r5 (fun e=>e);rw[←hwn];clear hwn
 have hcall:∀W,Mod noF wn W→Calls Tryz.prog 87 #[.pointer (some ⟨X.bX,0,none⟩),.int .i64 vb] W fun e w'=>e=.returned (.tuple #[.agg #[.int .i64 c,.int .i64 g],.bool true])∧Mod noF W w':=fun W hW=>
  pref_hit (HH.out.keep0 (hmn.trans0 hW)) hN (HL.out.keep (hmn.trans0 hW)) Hwb.out Hn.out
 have Hcall:=Lib.hid hcall;have Hmn:=Lib.hid hmn;have hS:∀W,Mod noF wn W→W.cell? ⟨w.heap.size,2,none⟩=some (.int .i64 rb)∧W.cell? ⟨X.bL,t*11+2+rb,none⟩=some (.int .i64 vb):=fun W hW=>⟨hW.cell s2 (fun e=>e),hW.cell p5 (fun e=>e)⟩;have hst:=hS wn (Mod.refl _ _);have HS:=Lib.hid hS;clear hcall hmn hS
 go_region_held3 (fun W=>W.cell? ⟨w.heap.size,2,none⟩=some (.int .i64 rb)∧W.cell? ⟨X.bL,t*11+2+rb,none⟩=some (.int .i64 vb)) (first|assumption|exact two_alloc (by assumption) _|exact two_drew (by assumption)|exact two_set2 (by assumption) (by omega) (by omega) _ _ _ _) (first|(go_at_call 87;refine (Hcall.out _ (by repeat (first|exact Mod.refl _ _|refine Mod.drew ?_|refine Mod.drewN ?_ _|refine Mod.alloc ?_ _))).mono ?_;rintro e w6 ⟨rfl,hm6⟩;have k2:=(HS.out w6 (Mod.trans0 (by repeat (first|exact Mod.refl _ _|refine Mod.drew ?_|refine Mod.drewN ?_ _|refine Mod.alloc ?_ _)) hm6));(try (have hb7:=hm6.heap (heap_alloc_new _ _) (fun e=>e);have hc70:=cell_of_heap hb7 0;have hc71:=cell_of_heap hb7 1;have hf70:=free_of_heap hb7 0;have hf71:=free_of_heap hb7 1;have hl7:=lt_of_block hb7;simp at hc70 hc71 hf70 hf71 hl7))))
 ·obtain ⟨wz,hwz⟩:∃wz,wz=(w6.alloc (.cells #[.int .i64 c,.int .i64 g] 101)):=⟨_,rfl⟩
  have hmz:Mod noF wn wz:=by rw[hwz];exact (((Mod.refl noF wn).drew).trans0 hm6).alloc _
  have hz:=Hmn.out.trans0 hmz;have hup:XUp w X vs mv m wz m vs mv:=XUp.quiet HH.out.p hz
  have y0:wz.cell? ⟨w6.heap.size,0,none⟩=some (.int .i64 c):=by rw[hwz];simp
  have y1:wz.cell? ⟨w6.heap.size,1,none⟩=some (.int .i64 g):=by rw[hwz];simp
  rw[←hwz];have u0:=hz.cell t0 (fun e=>e);have v1:=hmz.cell s1 (fun e=>e);have v3:=hmz.cell s3 (fun e=>e);obtain ⟨q,hq⟩:∃q,m.waits[t]?=some q:=⟨_,List.getElem?_eq_getElem (by rw[HH.out.ot.len];exact ht)⟩
  have hcall2:∀W,Mod noF wz W→Calls Tryz.prog 88 #[.pointer (some ⟨X.P.bM,0,none⟩),.int .i64 t,.agg #[.int .i64 c,.int .i64 g],.int .i64 rc] W fun e w'=>e=.returned (.tuple #[.int .i64 (Qs.look (m.waitsOf t) c g rc (getWord m.cells c.toNat rc)),.nilIface])∧Mod noF wz w':=fun W hW=>by
   have hq2:=hz.trans0 hW;have:=pload_any (HH.out.keep0 hq2).p.mem (HL.out.keep hq2).E.four (HH.out.cells hN) HH.out.om.waits hq (HH.out.om.wlen t q hq) c g rc;obtain ⟨l1,l2⟩:=look_load hc (names_ref Hn.out).2 q;rw[l1,l2]at this
   have e:m.waitsOf t=q:=by simp[M.waitsOf,List.getD,hq]
   rw[e];exact this.mono fun e w' h=>⟨h.1,hW.trans0 h.2⟩
  have hS2:∀W,Mod noF wz W→Mod noF wz W∧W.cell? ⟨X.bX,0,none⟩=some (.pointer (some ⟨X.P.bM,0,none⟩))∧W.cell? ⟨w6.heap.size,0,none⟩=some (.int .i64 c)∧W.cell? ⟨w6.heap.size,1,none⟩=some (.int .i64 g)∧W.cell? ⟨w.heap.size,3,none⟩=some (.int .i64 rc):=fun W hW=>⟨hW,hW.cell u0 (fun e=>e),hW.cell y0 (fun e=>e),hW.cell y1 (fun e=>e),hW.cell v3 (fun e=>e)⟩
  have HS2:=Lib.hid hS2;have Hcall2:=Lib.hid hcall2;have Hmz:=Lib.hid hmz;have Hz:=Lib.hid hz;clear hS2 hcall2 hmz hz hup HS Hcall hwz;generalize hlv:Qs.look (m.waitsOf t) c g rc (getWord m.cells c.toNat rc)=lv at *;go_wp2
  go_region_held3 (fun W=>Mod noF wz W∧W.cell? ⟨X.bX,0,none⟩=some (.pointer (some ⟨X.P.bM,0,none⟩))∧W.cell? ⟨w6.heap.size,0,none⟩=some (.int .i64 c)∧W.cell? ⟨w6.heap.size,1,none⟩=some (.int .i64 g)∧W.cell? ⟨w.heap.size,3,none⟩=some (.int .i64 rc)) ((refine HS2.out _ ?_;first|assumption|exact Mod.refl _ _|exact (Mod.refl _ _).drew)) (first|(go_at_call 88;go_split_ands;refine (Hcall2.out _ ?_).mono ?_;assumption;rintro e w8 ⟨rfl,hm8⟩))
  have h8z:=Hz.out.trans0 hm8;have x1:=hm8.cell v1 (fun e=>e);have P8:=(HH.out.keep0 h8z).p;have x5:=P8.reg_at Hh.out ha;have x6:=P8.reg_free Hh.out (t*11+2+ra);have x7:=(P8.thr_at Hh.out).2.2;generalize hva:h.regs.getD ra 0=va at *;have H8:=Lib.hid h8z;clear hm8 h8z P8;go_wp2
  go_region
  go_wp2;refine bodyPost_end (v:=.tuple #[]) (by simp[results,Tryz.results47,go_sem]) rfl ⟨rfl,?_⟩;refine ⟨vs,?_⟩;rw[hlv]
  exact ((XUp.quiet HH.out.p H8.out).trans ((HH.out.keep0 H8.out).p.setRegQ Hh.out h8 ha lv)).then0 (by repeat (first|exact Mod.refl _ _|refine Mod.drew ?_|refine Mod.drewN ?_ _|refine Mod.alloc ?_ _))
 ·obtain ⟨wz,hwz⟩:∃wz,wz=((w6.setCell ⟨wn.heap.size,0,none⟩ (.int .i64 c)).setCell ⟨wn.heap.size,1,none⟩ (.int .i64 g)):=⟨_,rfl⟩
  have hmz:Mod noF wn wz:=by rw[hwz];exact mod_ref2 ((((Mod.refl noF wn).alloc _).drew).trans0 hm6) (Nat.le_refl _) _ _
  have hz:=Hmn.out.trans0 hmz;have hup:XUp w X vs mv m wz m vs mv:=XUp.quiet HH.out.p hz
  have y0:wz.cell? ⟨wn.heap.size,0,none⟩=some (.int .i64 c):=by rw[hwz];exact (set2_at hc70 hc71 _ _).1
  have y1:wz.cell? ⟨wn.heap.size,1,none⟩=some (.int .i64 g):=by rw[hwz];exact (set2_at hc70 hc71 _ _).2
  rw[←hwz];have u0:=hz.cell t0 (fun e=>e);have v1:=hmz.cell s1 (fun e=>e);have v3:=hmz.cell s3 (fun e=>e);obtain ⟨q,hq⟩:∃q,m.waits[t]?=some q:=⟨_,List.getElem?_eq_getElem (by rw[HH.out.ot.len];exact ht)⟩
  have hcall2:∀W,Mod noF wz W→Calls Tryz.prog 88 #[.pointer (some ⟨X.P.bM,0,none⟩),.int .i64 t,.agg #[.int .i64 c,.int .i64 g],.int .i64 rc] W fun e w'=>e=.returned (.tuple #[.int .i64 (Qs.look (m.waitsOf t) c g rc (getWord m.cells c.toNat rc)),.nilIface])∧Mod noF wz w':=fun W hW=>by
   have hq2:=hz.trans0 hW;have:=pload_any (HH.out.keep0 hq2).p.mem (HL.out.keep hq2).E.four (HH.out.cells hN) HH.out.om.waits hq (HH.out.om.wlen t q hq) c g rc;obtain ⟨l1,l2⟩:=look_load hc (names_ref Hn.out).2 q;rw[l1,l2]at this
   have e:m.waitsOf t=q:=by simp[M.waitsOf,List.getD,hq]
   rw[e];exact this.mono fun e w' h=>⟨h.1,hW.trans0 h.2⟩
  have hS2:∀W,Mod noF wz W→Mod noF wz W∧W.cell? ⟨X.bX,0,none⟩=some (.pointer (some ⟨X.P.bM,0,none⟩))∧W.cell? ⟨wn.heap.size,0,none⟩=some (.int .i64 c)∧W.cell? ⟨wn.heap.size,1,none⟩=some (.int .i64 g)∧W.cell? ⟨w.heap.size,3,none⟩=some (.int .i64 rc):=fun W hW=>⟨hW,hW.cell u0 (fun e=>e),hW.cell y0 (fun e=>e),hW.cell y1 (fun e=>e),hW.cell v3 (fun e=>e)⟩
  have HS2:=Lib.hid hS2;have Hcall2:=Lib.hid hcall2;have Hmz:=Lib.hid hmz;have Hz:=Lib.hid hz;clear hS2 hcall2 hmz hz hup HS Hcall hwz;generalize hlv:Qs.look (m.waitsOf t) c g rc (getWord m.cells c.toNat rc)=lv at *;go_wp2
  go_region_held3 (fun W=>Mod noF wz W∧W.cell? ⟨X.bX,0,none⟩=some (.pointer (some ⟨X.P.bM,0,none⟩))∧W.cell? ⟨wn.heap.size,0,none⟩=some (.int .i64 c)∧W.cell? ⟨wn.heap.size,1,none⟩=some (.int .i64 g)∧W.cell? ⟨w.heap.size,3,none⟩=some (.int .i64 rc)) ((refine HS2.out _ ?_;first|assumption|exact Mod.refl _ _|exact (Mod.refl _ _).drew)) (first|(go_at_call 88;go_split_ands;refine (Hcall2.out _ ?_).mono ?_;assumption;rintro e w8 ⟨rfl,hm8⟩))
  have h8z:=Hz.out.trans0 hm8;have x1:=hm8.cell v1 (fun e=>e);have P8:=(HH.out.keep0 h8z).p;have x5:=P8.reg_at Hh.out ha;have x6:=P8.reg_free Hh.out (t*11+2+ra);have x7:=(P8.thr_at Hh.out).2.2;generalize hva:h.regs.getD ra 0=va at *;have H8:=Lib.hid h8z;clear hm8 h8z P8;go_wp2
  go_region
  go_wp2;refine bodyPost_end (v:=.tuple #[]) (by simp[results,Tryz.results47,go_sem]) rfl ⟨rfl,?_⟩;refine ⟨vs,?_⟩;rw[hlv]
  exact ((XUp.quiet HH.out.p H8.out).trans ((HH.out.keep0 H8.out).p.setRegQ Hh.out h8 ha lv)).then0 (by repeat (first|exact Mod.refl _ _|refine Mod.drew ?_|refine Mod.drewN ?_ _|refine Mod.alloc ?_ _))
theorem ptouch_load_none(H:PX w X vs mv m N)(hN:N≤1000000000)(L:XLow b0 w a X vs mv){t:Nat}(ht:t<m.T.length){h:Thr}(hh:m.T[t]?=some h)(h8:h.regs.length=8){ra rb rc:Nat}{to:ByteArray}(ha:ra<8)(hb:rb<8)(hc:rc<4)(hn:m.names (h.regs.getD rb 0)=none) :
  Calls Tryz.prog 47 #[.pointer (some ⟨X.bX,0,none⟩),.int .i64 t,insV 6 ra rb rc to] w fun e w'=>e=.returned (.tuple #[])∧∃vs',XUp w X vs mv m w' (m.fault.setReg t ra 0) vs' mv:=by
 obtain ⟨t0,-,-,-,-,t5⟩:=H.p.top_at;obtain ⟨_,t1,-⟩:=H.p.top_at;have r5:=H.p.reg_at hh hb;have wb:=H.regW hh hb;have hl5:=(H.p.thr_at hh).2.2;have ht6:=H.t6
 have ia0:(0:Int)≤(ra:Int):=by omega
 have ia8:(ra:Int)<8:=by omega
 have ib0:(0:Int)≤(rb:Int):=by omega
 have ib8:(rb:Int)<8:=by omega
 have Hreg:=Lib.hid (fun (W:World) (m1:M) (vs1:List Value) (P:PMach W X vs1 mv m1) (hT:m1.T=m.T)=>(show m1.T[t]?=some h by rw[hT];exact hh));generalize hvb:h.regs.getD rb 0=vb at *;have HH:=Lib.hid H;have HL:=Lib.hid L;have Hh:=Lib.hid hh;have Hn:=Lib.hid hn;have Hwb:=Lib.hid wb
 have Hvb:=Lib.hid hvb;clear H L hh hn wb hvb;unfold insV;simp only[opStr]
 go_enter Tryz.func47,Tryz.ntmps47
 go_wp2;obtain ⟨wn,hwn⟩:∃wn,wn=w.alloc (.cells #[.string ⟨#[108,111,97,100]⟩,.int .i64 ra,.int .i64 rb,.int .i64 rc,.string to] 73):=⟨_,rfl⟩
 have hmn:Mod noF w wn:=by rw[hwn];exact (Mod.refl noF w).alloc _
 have s1:wn.cell? ⟨w.heap.size,1,none⟩=some (.int .i64 ra):=by rw[hwn];simp
 have s2:wn.cell? ⟨w.heap.size,2,none⟩=some (.int .i64 rb):=by rw[hwn];simp
 have s3:wn.cell? ⟨w.heap.size,3,none⟩=some (.int .i64 rc):=by rw[hwn];simp
 have hxl:w.heap.size<wn.heap.size:=by rw[hwn];simp
 have hxw:¬XFoot X vs mv w.heap.size:=fun e=>by have:=HH.out.p.lt e;omega
 have p0:=hmn.cell t0 (fun e=>e);have p5:=hmn.cell r5 (fun e=>e);rw[←hwn];clear hwn
 have hcall:∀W,Mod noF wn W→Calls Tryz.prog 87 #[.pointer (some ⟨X.bX,0,none⟩),.int .i64 vb] W fun e w'=>∃c g,e=.returned (.tuple #[.agg #[.int .i64 c,.int .i64 g],.bool false])∧XUp W X vs mv m w' m.fault vs mv∧w'.cell? ⟨w.heap.size,2,none⟩=some (.int .i64 rb)∧w'.cell? ⟨X.bL,t*11+2+rb,none⟩=some (.int .i64 vb):=fun W hW=>
  (pref_miss (HH.out.keep0 (hmn.trans0 hW)) hN (HL.out.keep (hmn.trans0 hW)) Hwb.out Hn.out).mono (by
   rintro e w' ⟨c,g,rfl,hU⟩
   exact ⟨c,g,rfl,hU,hU.mod.cell (hW.cell s2 (fun e=>e)) hxw,by have:=hU.rep.reg_at (Hh.out:m.fault.T[t]?=some h) hb;rw[Hvb.out]at this;exact this⟩)
 have Hcall:=Lib.hid hcall;have Hmn:=Lib.hid hmn;have hS:∀W,Mod noF wn W→W.cell? ⟨w.heap.size,2,none⟩=some (.int .i64 rb)∧W.cell? ⟨X.bL,t*11+2+rb,none⟩=some (.int .i64 vb):=fun W hW=>⟨hW.cell s2 (fun e=>e),hW.cell p5 (fun e=>e)⟩;have hst:=hS wn (Mod.refl _ _);have HS:=Lib.hid hS;clear hcall hmn hS
 go_region_held3 (fun W=>W.cell? ⟨w.heap.size,2,none⟩=some (.int .i64 rb)∧W.cell? ⟨X.bL,t*11+2+rb,none⟩=some (.int .i64 vb)) (first|assumption|exact two_alloc (by assumption) _|exact two_drew (by assumption)|exact two_set2 (by assumption) (by omega) (by omega) _ _ _ _) (first|(go_at_call 87;refine (Hcall.out _ (by repeat (first|exact Mod.refl _ _|refine Mod.drew ?_|refine Mod.drewN ?_ _|refine Mod.alloc ?_ _))).mono ?_;rintro e w6 ⟨c,g,rfl,hU6,k2⟩;have k3:=k2.1;(try (have hb7:=hU6.mod.heap (heap_alloc_new _ _) (fun e=>by have:=(HH.out.keep0 (Hmn.out)).p.lt e;omega);have hc70:=cell_of_heap hb7 0;have hc71:=cell_of_heap hb7 1;have hf70:=free_of_heap hb7 0;have hf71:=free_of_heap hb7 1;have hl7:=lt_of_block hb7;simp at hc70 hc71 hf70 hf71 hl7))))
 ·obtain ⟨wz,hwz⟩:∃wz,wz=(w6.alloc (.cells #[.int .i64 c,.int .i64 g] 101)):=⟨_,rfl⟩
  have hup:XUp w X vs mv m wz m.fault vs mv:=by rw[hwz];exact ((XUp.quiet HH.out.p (Hmn.out.trans0 (Mod.refl noF wn).drew)).trans hU6).then0 ((Mod.refl noF w6).alloc _)
  have y0:wz.cell? ⟨w6.heap.size,0,none⟩=some (.int .i64 c):=by rw[hwz];simp
  have y1:wz.cell? ⟨w6.heap.size,1,none⟩=some (.int .i64 g):=by rw[hwz];simp
  rw[←hwz];have Hup:=Lib.hid hup
  have hT:wz.cell? ⟨w.heap.size,1,none⟩=some (.int .i64 ra)∧wz.cell? ⟨w.heap.size,2,none⟩=some (.int .i64 rb):=by
   have hs6:=hU6.mod.size;simp at hs6
   have hx1:Mod (fun k=>XFoot X vs mv k∨k=w6.heap.size) wn wz:=by rw[hwz];exact (((((Mod.refl noF wn).drew).any.trans hU6.mod (fun k _ e=>e)).mono (fun k _ e=>.inl e)).alloc _)
   exact ⟨hx1.cell s1 (fun e=>e.elim hxw (fun (e:w.heap.size=w6.heap.size)=>by omega)),hx1.cell s2 (fun e=>e.elim hxw (fun (e:w.heap.size=w6.heap.size)=>by omega))⟩
  obtain ⟨x1,x2⟩:=hT;have P8:=hup.rep;have x5:=P8.reg_at (Hh.out:m.fault.T[t]?=some h) ha;have x6:=P8.reg_free (Hh.out:m.fault.T[t]?=some h) (t*11+2+ra);have x7:=(P8.thr_at (Hh.out:m.fault.T[t]?=some h)).2.2;generalize hva:h.regs.getD ra 0=va at *;clear hup HS Hcall hwz P8;go_wp2
  go_region
  go_wp2;refine bodyPost_end (v:=.tuple #[]) (by simp[results,Tryz.results47,go_sem]) rfl ⟨rfl,?_⟩
  exact ⟨vs,(Hup.out.trans (Hup.out.rep.setRegQ (Hh.out:m.fault.T[t]?=some h) h8 ha 0)).then0 (by repeat (first|exact Mod.refl _ _|refine Mod.drew ?_|refine Mod.drewN ?_ _|refine Mod.alloc ?_ _))⟩
 ·obtain ⟨wz,hwz⟩:∃wz,wz=((w6.setCell ⟨wn.heap.size,0,none⟩ (.int .i64 c)).setCell ⟨wn.heap.size,1,none⟩ (.int .i64 g)):=⟨_,rfl⟩
  have hup:XUp w X vs mv m wz m.fault vs mv:=by rw[hwz];exact XUp.ref2 (m1:=m.fault) HH.out.p rfl ((XUp.quiet HH.out.p (Hmn.out.trans0 (((Mod.refl noF wn).alloc _).drew))).trans hU6) (Nat.le_of_lt hxl) _ _
  have y0:wz.cell? ⟨wn.heap.size,0,none⟩=some (.int .i64 c):=by rw[hwz];exact (set2_at hc70 hc71 _ _).1
  have y1:wz.cell? ⟨wn.heap.size,1,none⟩=some (.int .i64 g):=by rw[hwz];exact (set2_at hc70 hc71 _ _).2
  rw[←hwz];have Hup:=Lib.hid hup
  have hT:wz.cell? ⟨w.heap.size,1,none⟩=some (.int .i64 ra)∧wz.cell? ⟨w.heap.size,2,none⟩=some (.int .i64 rb):=by
   have hs6:=hU6.mod.size;simp at hs6
   have hx1:Mod (fun k=>XFoot X vs mv k∨k=wn.heap.size) wn wz:=by rw[hwz];exact ((((((((Mod.refl noF wn).alloc _).drew).any.trans hU6.mod (fun k _ e=>e)).mono (fun k _ e=>.inl e)).setCell (fun _=>.inr rfl) _).setCell (fun _=>.inr rfl) _))
   exact ⟨hx1.cell s1 (fun e=>e.elim hxw (fun (e:w.heap.size=wn.heap.size)=>by omega)),hx1.cell s2 (fun e=>e.elim hxw (fun (e:w.heap.size=wn.heap.size)=>by omega))⟩
  obtain ⟨x1,x2⟩:=hT;have P8:=hup.rep;have x5:=P8.reg_at (Hh.out:m.fault.T[t]?=some h) ha;have x6:=P8.reg_free (Hh.out:m.fault.T[t]?=some h) (t*11+2+ra);have x7:=(P8.thr_at (Hh.out:m.fault.T[t]?=some h)).2.2;generalize hva:h.regs.getD ra 0=va at *;clear hup HS Hcall hwz P8;go_wp2
  go_region
  go_wp2;refine bodyPost_end (v:=.tuple #[]) (by simp[results,Tryz.results47,go_sem]) rfl ⟨rfl,?_⟩
  exact ⟨vs,(Hup.out.trans (Hup.out.rep.setRegQ (Hh.out:m.fault.T[t]?=some h) h8 ha 0)).then0 (by repeat (first|exact Mod.refl _ _|refine Mod.drew ?_|refine Mod.drewN ?_ _|refine Mod.alloc ?_ _))⟩
end Go.Proofs.YtciaficoeajeaaaGreatDoor
