/- quiescentlaw1.asModel: both machines tell the same. -/
import Derived.Test.YtciaficoeajeaaaGreatDoorMRm9
import Derived.Test.YtciaficoeajeaaaGreatDoorMRm7
import Derived.Test.YtciaficoeajeaaaGreatDoorMRm2
import Derived.Test.YtciaficoeajeaaaGreatDoorMRm5
import Derived.Test.YtciaficoeajeaaaGreatDoorMRm6
import Derived.Test.YtciaficoeajeaaaGreatDoorMRPOps
import Derived.Deep.RegionHeld3
import Derived.Deep.QuietTactic
import Derived.BigQuiet
set_option linter.unusedVariables false
set_option linter.unusedSimpArgs false
set_option linter.unusedSectionVars false
set_option maxHeartbeats 16000000
set_option maxRecDepth 100000
namespace Go.Proofs.YtciaficoeajeaaaGreatDoor
open Go.RowKit Qs Qh
variable {w w1 w2 w' b0:World}{X:XB}{vs vs':List Value}{mv mv':Value}{L L':Lay}{m m':M}{N N':Int}{a:Nat→Addr}
theorem loadE_at{l:List Cell}{i j:Nat}{c:Cell}(hc:l[i]?=some c)(hj:j<4):loadE l i (c.times - 1) j=if c.here=true then (c.words.getD j 0,0)else (0,7):=by
 have h:hereIn l i (c.times - 1)=c.here:=by
  unfold hereIn cellAt;rw[if_neg (by omega),Int.toNat_natCast,hc];simp
 unfold loadE;rw[h]
 by_cases e:c.here=true
 ·rw[if_pos e,if_pos e,if_pos (by omega)];unfold Qs.getWord;rw[Int.toNat_natCast,Int.toNat_natCast,hc];rfl
 ·rw[if_neg e,if_neg e]
theorem asModel_any(D:Duo b0 w a X vs mv L m N)(hN:N≤1000000000) :
  Calls Tryz.prog 18 #[.pointer (some ⟨X.bX,0,none⟩),.pointer (some ⟨L.blk 0 0,0,none⟩)] w fun e w'=>e=.returned (.bool true)∧Mod noF w w':=by
 have HD:=Lib.hid D;obtain ⟨o0,o1,o2,o3,-,o5⟩:=D.mach.top;obtain ⟨p0,-,-,-,-,p5⟩:=D.px.top_at;have ht6:=D.PX.t6;have hc64:=D.mach.om.cells;have hl:=D.mach.ot.marks;have om1:=D.mach.rep.lt1 rfl
 have hcall1:∀W,Mod noF w W→Calls Tryz.prog 30 #[.pointer (some ⟨X.bX,0,none⟩)] W fun e w'=>e=.returned (.int .i64 m.faults)∧Mod noF w W∧Mod noF w w':=fun W hW=>(pfaults_any (HD.out.keep0 hW).px).mono fun e w' h=>⟨h.1,hW,h.2 ▸ hW⟩
 have hcall2:∀W,Mod noF w W→Calls Tryz.prog 60 #[.pointer (some ⟨X.bX,0,none⟩)] W fun e w'=>e=.returned (.int .i64 (countL m.cells))∧Mod noF w W∧Mod noF w w':=fun W hW=>(pcells_any (HD.out.keep0 hW).PX).mono fun e w' h=>⟨h.1,hW,hW.trans0 h.2⟩
 have hcall3:∀W,Mod noF w W→Calls Tryz.prog 61 #[.pointer (some ⟨L.blk 1 0,0,none⟩)] W fun e w'=>e=.returned (.int .i64 (countL m.cells))∧Mod noF w W∧Mod noF w w':=fun W hW=>(count_any (HD.out.keep0 hW).mach.rep rfl rfl (HD.out.keep0 hW).mach.om (HD.out.keep0 hW).mach.ol).mono fun e w' h=>⟨h.1,hW,hW.trans0 h.2⟩
 have hS:∀W,Mod noF w W→(Mod noF w W∧W.cell? ⟨L.blk 0 0,0,none⟩=some (.pointer (some ⟨L.blk 1 0,0,none⟩))∧W.cell? ⟨L.blk 0 0,3,none⟩=some (.int .i64 m.faults)):=fun W hW=>⟨hW,hW.cell o0 (fun e=>e),hW.cell o3 (fun e=>e)⟩;have hst:=hS w (Mod.refl _ _);have HS:=Lib.hid hS;have H1:=Lib.hid hcall1
 have H2:=Lib.hid hcall2;have H3:=Lib.hid hcall3;clear D hcall1 hcall2 hcall3 hS
 go_enter Tryz.func18,Tryz.ntmps18
 go_wp2
 go_region_held3 (fun W=>(Mod noF w W∧W.cell? ⟨L.blk 0 0,0,none⟩=some (.pointer (some ⟨L.blk 1 0,0,none⟩))∧W.cell? ⟨L.blk 0 0,3,none⟩=some (.int .i64 m.faults))) ((refine HS.out _ ?_;first|assumption|exact Mod.refl _ _|exact (Mod.refl _ _).drew)) (first|(go_at_call 30;go_split_ands;refine (H1.out _ ?_).mono ?_;assumption;rintro e w1 ⟨rfl,hm0,hm1⟩)|(go_at_call 60;go_split_ands;refine (H2.out _ ?_).mono ?_;assumption;rintro e w1 ⟨rfl,hm0,hm1⟩)|(go_at_call 61;go_split_ands;refine (H3.out _ ?_).mono ?_;assumption;rintro e w1 ⟨rfl,hm0,hm1⟩))
 have Hm1:=Lib.hid hm1;have k2:=hm1.cell o2 (fun e=>e);clear hm1 hm0 H1 H2 H3 HS
 go_wp2_with fail
 refine (pmarks_any (HD.out.keep0 Hm1.out).PX).mono ?_;rintro e w2 ⟨v',rfl,hv,hm2⟩;have hm:=Hm1.out.trans0 hm2;have hmk:=marks_row (HD.out.keep0 hm).mach.owns5;have q2:=hm2.cell k2 (fun e=>e);have qb:=Nat.lt_of_lt_of_le o5 hm.size;obtain ⟨va,vc,rfl,-⟩:=id hv;obtain ⟨ra,rc,er,-⟩:=id hmk
 rw[er]at q2 hmk;have HV:=Lib.hid hv;have HK:=Lib.hid hmk;have Hm:=Lib.hid hm;clear hv hmk hm hm2 k2 er;go_wp2
 go_loopw [6] (fun i wr=>∃k:Nat,k≤m.marks.length∧i=.int .i64 k∧Mod noF w2 wr) (fun i _=>m.marks.length - (intOf i).toNat)
 case atStart=>exact ⟨0,Nat.zero_le _,rfl,Mod.refl _ _⟩
 case round=>
  obtain ⟨k,hk,rfl,hmr⟩:=hrel
  by_cases hlt:k<m.marks.length
  ·have hd:decide ((k:Int)<(m.marks.length:Int))=true:=by simp;omega
   have hki:(k:Int)<(m.marks.length:Int):=by omega
   obtain ⟨x,hx⟩:∃x,m.marks[k]?=some x:=⟨_,List.getElem?_eq_getElem hlt⟩;obtain ⟨a1,c1,e1,h1⟩:=HV.out.keep hmr;cases e1;obtain ⟨a2,c2,e2,h2⟩:=HK.out.keep hmr;cases e2;obtain ⟨b1,f1,rfl,hb1,g0,g1⟩:=h1 k x hx;obtain ⟨b2,f2,rfl,hb2,i0,i1⟩:=h2 k x hx;have r2:=hmr.cell q2 (fun e=>e)
   have rb:=Nat.lt_of_lt_of_le qb hmr.size;have Hmr:=Lib.hid hmr;clear h1 h2 hmr hx;go_wp2
   go_quiet (fail)
   go_wp2
   go_roundw
   case rel=>exact ⟨k+1,by omega,by go_num,by first|exact Hmr.out.drew|exact Hmr.out.drewN _|exact Hmr.out⟩
   case measure=>simp[intOf];omega
  ·have hd:decide ((k:Int)<(m.marks.length:Int))=false:=by simp;omega
   have Hmr:=Lib.hid (Hm.out.trans0 hmr);clear hmr;obtain ⟨w3,rfl⟩:∃w3:World,w3=wr:=⟨_,rfl⟩;go_wp2
   go_loopw [7] (fun i wr=>∃k:Nat,k≤m.T.length∧i=.int .i64 k∧Mod noF w wr) (fun i _=>m.T.length - (intOf i).toNat)
   case atStart=>exact ⟨0,Nat.zero_le _,rfl,Hmr.out⟩
   case round=>
    obtain ⟨t,hk,rfl,hmr⟩:=hrel;have r1:=hmr.cell o1 (fun e=>e);have rb:=Nat.lt_of_lt_of_le o5 hmr.size
    by_cases hlt:t<m.T.length
    ·have hd:decide ((t:Int)<(m.T.length:Int))=true:=by simp;omega
     have hti:(t:Int)<(m.T.length:Int):=by omega
     obtain ⟨h,hh⟩:∃h,m.T[t]?=some h:=⟨_,List.getElem?_eq_getElem hlt⟩;have Hr:=Lib.hid hmr;have Hh:=Lib.hid hh;clear hmr hh
     go_wp2_with fail
     refine (pdone_any (HD.out.keep0 Hr.out).PX t hlt).mono ?_;rintro e w4 ⟨rfl,hm4⟩;have Hm4:=Lib.hid (Hr.out.trans0 hm4);clear hm4
     go_wp2_with fail
     refine (done_any (HD.out.keep0 Hm4.out).mach t hlt).mono ?_;rintro e w5 ⟨rfl,hm5⟩;have Hm5:=Lib.hid (Hm4.out.trans0 hm5);clear hm5;generalize m.done t=dn;go_wp2
     go_loopw [8] (fun i wr=>∃k:Nat,k≤8∧i=.int .i64 k∧Mod noF w wr) (fun i _=>8 - (intOf i).toNat)
     case atStart=>exact ⟨0,Nat.zero_le _,rfl,Hm5.out⟩
     case round=>
      obtain ⟨r,hk,rfl,hmr⟩:=hrel
      by_cases hlt8:r<8
      ·have hd8:decide ((r:Int)<8)=true:=by simp;omega
       have hri:(r:Int)<8:=by omega
       have Hr6:=Lib.hid hmr;clear hmr
       go_wp2_with fail
       refine (preg_any (HD.out.keep0 Hr6.out).PX Hh.out hlt8).mono ?_;rintro e w6 ⟨rfl,hm6⟩;have hm7:=Hr6.out.trans0 hm6;have X7:=(HD.out.keep0 hm7).mach;obtain ⟨-,s1,-,-,-,-⟩:=X7.top;have sb:=Nat.lt_of_lt_of_le o5 hm7.size;obtain ⟨-,u1,-,-,ub⟩:=X7.thr_at Hh.out
       obtain ⟨v0,-,vb⟩:=X7.reg_at Hh.out hlt8;have Hm7:=Lib.hid hm7;generalize h.regs.getD r 0=rv at *;clear X7 hm6 hm7;go_wp2
       go_roundw
       case rel=>exact ⟨r+1,by omega,by go_num,Hm7.out⟩
       case measure=>simp[intOf];omega
      ·have hd8:decide ((r:Int)<8)=false:=by simp;omega
       have Hr6:=Lib.hid hmr;clear hmr;go_wp2
       go_roundw
       case rel=>exact ⟨t+1,by omega,by go_num,Hr6.out⟩
       case measure=>simp[intOf];omega
    ·have hd:decide ((t:Int)<(m.T.length:Int))=false:=by simp;omega
     have Hr:=Lib.hid hmr;clear hmr;go_wp2
     go_loopw [11] (fun i wr=>∃k:Nat,k≤m.cells.length∧i=.int .i64 k∧Mod noF w wr) (fun i _=>m.cells.length - (intOf i).toNat)
     case atStart=>exact ⟨0,Nat.zero_le _,rfl,Hr.out⟩
     case round=>
      obtain ⟨i,hk,rfl,hmr⟩:=hrel;obtain ⟨wo,rfl⟩:∃wo:World,wo=wr:=⟨_,rfl⟩;have X7:=(HD.out.keep0 hmr).mach;have s0:=hmr.cell o0 (fun e=>e);have sb:=Nat.lt_of_lt_of_le o5 hmr.size;have c0:=X7.rep.cells_at rfl X7.ol;have mb:=Nat.lt_of_lt_of_le om1 hmr.size;have cb:=X7.rep.lt2 rfl X7.ol
      by_cases hlt:i<m.cells.length
      ·have hd:decide ((i:Int)<(m.cells.length:Int))=true:=by simp;omega
       have hii:(i:Int)<(m.cells.length:Int):=by omega
       obtain ⟨c,hc⟩:∃c,m.cells[i]?=some c:=⟨_,List.getElem?_eq_getElem hlt⟩;obtain ⟨-,d1,-⟩:=X7.rep.cell_at rfl X7.ol hc;have htm:=X7.om.times i c hc;have hwr:IntKind.i64.wrap (c.times - 1)=c.times - 1:=IntWalk.i64_in _ (by omega);have Hr8:=Lib.hid hmr;have Hc:=Lib.hid hc;clear X7 hmr hc htm;go_wp2
       obtain ⟨wz,hwz⟩:∃wz,wz=wo.alloc (.cells #[.int .i64 i,.int .i64 (c.times - 1)] 101):=⟨_,rfl⟩
       have hmz:Mod noF w wz:=by rw[hwz];exact Hr8.out.alloc _
       have x0:wz.cell? ⟨wo.heap.size,0,none⟩=some (.int .i64 i):=by rw[hwz];simp
       have x1:wz.cell? ⟨wo.heap.size,1,none⟩=some (.int .i64 (c.times - 1)):=by rw[hwz];simp
       have xb:wo.heap.size<wz.heap.size:=by rw[hwz];simp
       rw[←hwz];have Hz:=Lib.hid hmz;clear hwz hmz s0 c0 d1
       go_loopw [13] (fun j wr=>∃k:Nat,k≤4∧j=.int .i64 k∧Mod noF wz wr) (fun j _=>4 - (intOf j).toNat)
       case atStart=>exact ⟨0,Nat.zero_le _,rfl,Mod.refl _ _⟩
       case round=>
        obtain ⟨j,hj,rfl,hms⟩:=hrel;obtain ⟨ws,rfl⟩:∃ws:World,ws=wr:=⟨_,rfl⟩
        by_cases hlt4:j<4
        ·have hd4:decide ((j:Int)<4)=true:=by simp;omega
         have hji:(j:Int)<4:=by omega
         have hmw:=Hz.out.trans0 hms;have p00:=hmw.cell p0 (fun e=>e);have x00:=hms.cell x0 (fun e=>e);have x11:=hms.cell x1 (fun e=>e)
         have hcall:∀W,Mod noF ws W→Calls Tryz.prog 62 #[.pointer (some ⟨X.P.bM,0,none⟩),.agg #[.int .i64 i,.int .i64 (c.times - 1)],.int .i64 j] W fun e w'=>e=.returned (.tuple #[.int .i64 (loadE m.cells i (c.times - 1) j).1,errOf' a (loadE m.cells i (c.times - 1) j).2])∧Mod noF ws W∧Mod noF ws w':=fun W hW=>by
          have D2:=HD.out.keep0 (hmw.trans0 hW);exact (ppeek_any D2.px.mem D2.low.E.four (D2.PX.cells hN) i (c.times - 1) j).mono fun e w' h=>⟨h.1,hW,hW.trans0 h.2⟩
         rw[loadE_at Hc.out hlt4]at hcall
         have hS:∀W,Mod noF ws W→(Mod noF ws W∧W.cell? ⟨X.bX,0,none⟩=some (.pointer (some ⟨X.P.bM,0,none⟩))∧W.cell? ⟨wo.heap.size,0,none⟩=some (.int .i64 i)∧W.cell? ⟨wo.heap.size,1,none⟩=some (.int .i64 (c.times - 1))):=fun W hW=>⟨hW,hW.cell p00 (fun e=>e),hW.cell x00 (fun e=>e),hW.cell x11 (fun e=>e)⟩
         have hst:=hS ws (Mod.refl _ _);have HS:=Lib.hid hS;have Hcall:=Lib.hid hcall;have Hw:=Lib.hid hmw;have pb:=Nat.lt_of_lt_of_le p5 hmw.size;have xbs:=Nat.lt_of_lt_of_le xb hms.size;have Hms:=Lib.hid hms;clear hS hcall hmw hms
         by_cases hhere:c.here=true
         ·have hrd:=Hcall.out;rw[if_pos hhere]at hrd;have e0:errOf' a ((c.words.getD j 0,(0:Int)):Int × Int).2=.nilIface:=rfl;rw[e0]at hrd;obtain ⟨wv,hwv⟩:∃x,x=c.words.getD j 0:=⟨_,rfl⟩;rw[←hwv]at hrd;have Hwv:=Lib.hid hwv;have Hrd:=Lib.hid hrd;have Hhere:=Lib.hid hhere;clear hrd Hcall hhere e0 hwv
          go_wp2
          go_region_held3 (fun W=>(Mod noF ws W∧W.cell? ⟨X.bX,0,none⟩=some (.pointer (some ⟨X.P.bM,0,none⟩))∧W.cell? ⟨wo.heap.size,0,none⟩=some (.int .i64 i)∧W.cell? ⟨wo.heap.size,1,none⟩=some (.int .i64 (c.times - 1)))) ((refine HS.out _ ?_;first|assumption|exact Mod.refl _ _|exact (Mod.refl _ _).drew)) (first|(go_at_call 62;go_split_ands;refine (Hrd.out _ ?_).mono ?_;assumption;rintro e w9 ⟨rfl,hm0,hm9⟩))
          have hmw:=Hw.out.trans0 hm9;have X9:=(HD.out.keep0 hmw).mach;have s0:=hmw.cell o0 (fun e=>e);have sb9:=Nat.lt_of_lt_of_le o5 hmw.size;have c0:=X9.rep.cells_at rfl X9.ol;have mb9:=Nat.lt_of_lt_of_le om1 hmw.size;have cb9:=X9.rep.lt2 rfl X9.ol
          obtain ⟨d0,-,d2⟩:=X9.rep.cell_at rfl X9.ol Hc.out;have wl:=(X9.om.words i c Hc.out).1;rw[wl]at d0;rw[Hhere.out]at d2;have n6:=X9.ol.n6 i hlt;have ho6:=obj6 ty (L:=L) n6 Hc.out
          have d3:w9.cell? ⟨L.blk 6 i,j,none⟩=some (.int .i64 (c.words.getD j 0)):=by
           rw[X9.rep.cell rfl ho6,List.getElem?_append_left (by simpa using (by omega:j<c.words.length))];simp[List.getD,(by omega:j<c.words.length),iv]
          have d3b:L.blk 6 i<w9.heap.size:=X9.rep.lt ⟨6,i,rfl,by rw[ho6];rfl,rfl⟩;have Hm9:=Lib.hid (Hms.out.trans0 hm9);rw[←Hwv.out]at d3;clear X9 hmw hm9 hm0 Hrd;go_wp2
          go_roundw
          case rel=>exact ⟨j+1,by omega,by go_num,Hm9.out⟩
          case measure=>simp[intOf];omega
         ·have hhere':c.here=false:=by simpa using hhere
          have hrd:=Hcall.out;rw[if_neg hhere]at hrd;have Hrd:=Lib.hid hrd;have Hhere:=Lib.hid hhere';clear hrd Hcall hhere hhere';go_wp2
          go_region_held3 (fun W=>(Mod noF ws W∧W.cell? ⟨X.bX,0,none⟩=some (.pointer (some ⟨X.P.bM,0,none⟩))∧W.cell? ⟨wo.heap.size,0,none⟩=some (.int .i64 i)∧W.cell? ⟨wo.heap.size,1,none⟩=some (.int .i64 (c.times - 1)))) ((refine HS.out _ ?_;first|assumption|exact Mod.refl _ _|exact (Mod.refl _ _).drew)) (first|(go_at_call 62;go_split_ands;refine (Hrd.out _ ?_).mono ?_;assumption;rintro e w9 ⟨rfl,hm0,hm9⟩))
          have hmw:=Hw.out.trans0 hm9;have X9:=(HD.out.keep0 hmw).mach;have s0:=hmw.cell o0 (fun e=>e);have sb9:=Nat.lt_of_lt_of_le o5 hmw.size;have c0:=X9.rep.cells_at rfl X9.ol;have mb9:=Nat.lt_of_lt_of_le om1 hmw.size;have cb9:=X9.rep.lt2 rfl X9.ol;obtain ⟨-,-,d2⟩:=X9.rep.cell_at rfl X9.ol Hc.out
          rw[Hhere.out]at d2;have hcd:=coded_self (HD.out.keep0 hmw).low.E 7 (by omega) (by omega);have Hcd:=Lib.hid hcd;have Hm9:=Lib.hid (Hms.out.trans0 hm9);clear X9 hmw hm9 hm0 Hrd hcd
          go_wp2_with fail
          refine Hcd.out.mono ?_;rintro e w10 ⟨rfl,hm10⟩;have Hm10:=Lib.hid (Hm9.out.trans0 hm10);clear hm10;go_wp2
          go_roundw
          case rel=>exact ⟨j+1,by omega,by go_num,Hm10.out⟩
          case measure=>simp[intOf];omega
        ·have hd4:decide ((j:Int)<4)=false:=by simp;omega
         have Hms:=Lib.hid (Hz.out.trans0 hms);clear hms;go_wp2
         go_roundw
         case rel=>exact ⟨i+1,by omega,by go_num,Hms.out⟩
         case measure=>simp[intOf];omega
      ·have hd:decide ((i:Int)<(m.cells.length:Int))=false:=by simp;omega
       have Hr8:=Lib.hid hmr;clear X7 hmr;go_wp2;go_ret;exact ⟨rfl,Hr8.out⟩
end Go.Proofs.YtciaficoeajeaaaGreatDoor
