/- quiescentref1.NewMachine, where fewer rows of registers stand than codes. -/
import Derived.Test.YtciaficoeajeaaaGreatDoorMRNewWalk
import Derived.Test.YtciaficoeajeaaaGreatDoorMRm2
set_option linter.unusedVariables false
set_option linter.unusedSimpArgs false
set_option linter.unusedSectionVars false
set_option maxHeartbeats 8000000
set_option maxRecDepth 100000
namespace Go.Proofs.YtciaficoeajeaaaGreatDoor
open Go.RowKit Qs Qh
theorem ThrRel.machine2{W wr:World}{S bs b0 bm n:Nat}{iw rw_ v:Value}{L:Lay}{init regs:List (List Int)}{codes:List (List Instr)}{cv:Nat→Value}{rb:Nat→Nat}
  (h:ThrRel W S bs b0 bm iw rw_ n L (preM n codes.length init init.length) regs cv codes.length v rb wr) (hW:W.heap.size≤b0) (hWS:W.heap.size≤S) (hb0:b0<S)
  (hfS:∀j,Foot ty memK L (preM n codes.length init init.length) j→W.heap.size≤j∧j<S∧j≠b0) (ol:OkL L (preM n codes.length init init.length)) (htop:L.blk 1 0=bm)
  (h1:1≤n) (hn:n≤64) (hc1:1≤codes.length) (hc6:codes.length≤6) (hi:RowsFine 4 init) (hr:RowsFine 8 regs) (hf:∀c∈codes,CodeFine c)
  (hcv:∀(i:Nat) c,codes[i]?=some c→CodeAt wr (cv i) c∧(c≠[]→∀g,(cv i).ownBlock=some g→g<W.heap.size)) :
  ∃L',Mach ty wr L' (startM n init regs codes) 1∧L'.blk 0 0=b0∧L'.code=cv∧∀j,Foot ty allK L' (startM n init regs codes) j→W.heap.size≤j:=by
 rcases h.row.2 with ⟨_,e⟩|⟨g,cap,cur,rfl,_,hg,hk,hcm,hcs,htake⟩
 ·omega
 have hgS:S≤g:=h.vown g rfl
 have hcur:cur.toList=thrFlat cv rb codes.length++cur.toList.drop (codes.length*3):=by
  conv=>lhs;rw[←List.take_append_drop (codes.length*3) cur.toList]
  rw[htake]
 have hmem:startM n init regs codes = {(preM n codes.length init init.length)with T:=(startM n init regs codes).T,marks:=[],faults:=0}:=rfl;refine ⟨machL L b0 g rb (cap - codes.length) (cur.toList.drop (codes.length*3)) cv,⟨⟨?_,?_⟩,?_,?_,?_,?_,?_⟩,rfl,rfl,?_⟩
 ·intro a i cs T hK ho
  rcases machL_cases ty _ (by rw[ho];rfl)with hm|⟨rfl,rfl⟩|⟨rfl,rfl⟩|⟨rfl,hi8⟩
  ·rw[hmem,machL_obj ty _ _ _ _ hm]at ho;rw[machL_blk hm];exact h.rep.at_ a i cs T hm ho
  ·rw[obj0]at ho;cases ho;refine Eq.trans h.mach ?_;simp only[Lay.row,machL,startM_len,htop]
   have:codes.length+(cap - codes.length)=cap:=by omega
   rw[this];rfl
  ·rw[obj4 ty _ rfl]at ho;cases ho;refine Eq.trans hg ?_
   congr 2
   apply Array.toList_inj.1;refine Eq.trans hcur ?_;simp only[machL]
   congr 1
   refine flat_congr2 _ _ 0 (by simp[startM]) fun i x y g1 g2=>?_;obtain ⟨c,hc,rfl⟩:=startM_T' g2;have e8:=pad_len (hr.getD i).1;simp only[thrV,thrVals,Nat.zero_add];rw[e8];rfl
  ·obtain ⟨c,hc⟩:∃c,codes[i]?=some c:=⟨_,List.getElem?_eq_getElem (by rw[startM_len]at hi8;exact hi8)⟩;rw[obj8 ty rfl (startM_T hc)]at ho;cases ho;have:=h.regs_ i (by rw[startM_len]at hi8;exact hi8);refine Eq.trans this ?_;simp only[machL,List.append_nil];rfl
 ·intro a i b j _ _ ha hb he
  have hz:∀a i,memK a=true→(obj ty (machL L b0 g rb (cap - codes.length) (cur.toList.drop (codes.length*3)) cv) (startM n init regs codes) a i).isSome→W.heap.size≤L.blk a i∧L.blk a i<S∧L.blk a i≠b0:=fun a i hm hs=>by
   rw[hmem,machL_obj ty _ _ _ _ hm]at hs;exact hfS _ ⟨a,i,hm,hs,rfl⟩
  have hrS:∀i,i<(startM n init regs codes).T.length→S≤rb i:=fun i hi8=>h.rbs i (by rw[startM_len]at hi8;exact hi8)
  rcases machL_cases ty _ ha with hma|⟨rfl,rfl⟩|⟨rfl,rfl⟩|⟨rfl,hi8⟩ <;> rcases machL_cases ty _ hb with hmb|⟨rfl,rfl⟩|⟨rfl,rfl⟩|⟨rfl,hj8⟩
  ·rw[machL_blk hma,machL_blk hmb]at he;rw[hmem,machL_obj ty _ _ _ _ hma]at ha;rw[hmem,machL_obj ty _ _ _ _ hmb]at hb;exact h.rep.inj a i b j hma hmb ha hb he
  ·have:=hz a i hma ha;rw[machL_blk hma]at he;exact absurd he this.2.2
  ·have:=hz a i hma ha;rw[machL_blk hma]at he;have e2:L.blk a i=g:=he;omega
  ·have:=hz a i hma ha;rw[machL_blk hma]at he;have e2:L.blk a i=rb j:=he;have:=hrS j hj8;omega
  ·have:=hz b j hmb hb;rw[machL_blk hmb]at he;exact absurd he.symm this.2.2
  ·exact ⟨rfl,rfl⟩
  ·have e2:b0=g:=he;omega
  ·have e2:b0=rb j:=he;have:=hrS j hj8;omega
  ·have:=hz b j hmb hb;rw[machL_blk hmb]at he;have e2:g=L.blk b j:=he;omega
  ·have e2:g=b0:=he;omega
  ·exact ⟨rfl,rfl⟩
  ·exact absurd he (h.vne g j rfl (by rw[startM_len]at hj8;exact hj8))
  ·have:=hz b j hmb hb;rw[machL_blk hmb]at he;have e2:rb i=L.blk b j:=he;have:=hrS i hi8;omega
  ·have e2:rb i=b0:=he;have:=hrS i hi8;omega
  ·exact absurd he.symm (h.vne g i rfl (by rw[startM_len]at hi8;exact hi8))
  ·exact ⟨rfl,h.inj i j (by rw[startM_len]at hi8;exact hi8) (by rw[startM_len]at hj8;exact hj8) he⟩
 ·have:=preM_ok (i:=init.length) h1 hn hc6 hi;exact ⟨this.cells1,this.cells,this.words,this.times,this.waits,this.wlen,this.wval,this.N0⟩
 ·exact ⟨ol.n2,ol.n3,ol.n6,ol.n7,ol.sp2,ol.sp3,ol.sp7,ol.j7⟩
 ·refine ⟨by simp[startM],by rw[startM_len];exact hc1,?_,?_,by simp[startM],by simp[startM]⟩
  ·intro t x hx;obtain ⟨c,hc,rfl⟩:=startM_T' hx;exact ⟨pad_len (hr.getD t).1,pad_word (hr.getD t).2⟩
  ·intro t x hx;obtain ⟨c,hc,rfl⟩:=startM_T' hx;exact ⟨Nat.zero_le _,(hf c (List.mem_of_getElem? hc)).ok⟩
 ·refine ⟨rfl,fun _ _=>rfl,fun _=>rfl,?_,(fun _ _=>by simp[machL]),(fun e=>by cases e),rfl⟩;rw[startM_len];simp only[machL];omega
 ·intro t x hx;obtain ⟨c,hc,rfl⟩:=startM_T' hx;obtain ⟨h1,h2⟩:=hcv t c hc;refine ⟨h1,fun hn b hb=>⟨fun hfo=>?_,Nat.lt_of_lt_of_le (h2 hn b hb) h.below.size⟩⟩;have hbW:=h2 hn b hb;obtain ⟨a,i,_,hs,e⟩:=hfo
  rcases machL_cases ty _ hs with hm|⟨rfl,rfl⟩|⟨rfl,rfl⟩|⟨rfl,hi8⟩
  ·rw[machL_blk hm]at e;rw[hmem,machL_obj ty _ _ _ _ hm]at hs;have:=hfS _ ⟨a,i,hm,hs,rfl⟩;omega
  ·have e2:b0=b:=e;omega
  ·have e2:g=b:=e;omega
  ·have e2:rb i=b:=e;have:=h.rbs i (by rw[startM_len]at hi8;exact hi8);omega
 ·intro b hfo;obtain ⟨a,i,_,hs,e⟩:=hfo
  rcases machL_cases ty _ hs with hm|⟨rfl,rfl⟩|⟨rfl,rfl⟩|⟨rfl,hi8⟩
  ·rw[machL_blk hm]at e;rw[hmem,machL_obj ty _ _ _ _ hm]at hs;have:=hfS _ ⟨a,i,hm,hs,rfl⟩;omega
  ·have e2:b0=b:=e;omega
  ·have e2:g=b:=e;omega
  ·have e2:rb i=b:=e;have:=h.rbs i (by rw[startM_len]at hi8;exact hi8);omega
def CodesAt0(w:World)(v:Value)(cs:List (List Instr))(cv:Nat→Value):Prop:=
 ∃a c,v=.slice a cs.length c∧∀(i:Nat) l,cs[i]?=some l→∃b off,a=some ⟨b,off,none⟩∧b<w.heap.size∧w.cell? ⟨b,off+i,none⟩=some (cv i)∧CodeAt w (cv i) l∧True
theorem CodesAt0.keep{w w':World}{v:Value}{cs:List (List Instr)}{cv:Nat→Value}(h:CodesAt0 w v cs cv)(hB:Below w.heap.size w w'):CodesAt0 w' v cs cv:=by
 obtain ⟨a,c,e,hx⟩:=h;refine ⟨a,c,e,fun i l hi=>?_⟩;obtain ⟨b,off,e1,hb,hc,hi2,ho⟩:=hx i l hi;have hM:=Mod.below hB;exact ⟨b,off,e1,Nat.lt_of_lt_of_le hb hM.size,hM.cell hc (fun e=>e),hi2.frame hM (fun _ _ e=>e),ho⟩
theorem newMachine_le(n:Nat)(iw rw_ cw:Value)(init regs:List (List Int))(codes:List (List Instr))(cv:Nat→Value)(w:World)(hI:RowsAt0 w iw init)(hR:RowsAt0 w rw_ regs)(hC:CodesAt0 w cw codes cv)
  (h1:1≤n) (hn:n≤64) (hc1:1≤codes.length) (hc6:codes.length≤6) (hin:init.length≤n) (hrc:regs.length≤codes.length) (hi:RowsFine 4 init) (hr:RowsFine 8 regs) (hf:∀c∈codes,CodeFine c) :
  Calls Tryz.prog 12 #[.agg #[.int .i64 n,iw,rw_],cw] w fun e w'=>∃L',e=.returned (.pointer (some ⟨L'.blk 0 0,0,none⟩))∧L'.code=cv∧Mach ty w' L' (startM n init regs codes) 1∧Below w.heap.size w w'∧∀j,Foot ty allK L' (startM n init regs codes) j→w.heap.size≤j:=by
 have HI:=Lib.hid hI;have HR:=Lib.hid hR;have HC:=Lib.hid hC;have Hi:=Lib.hid hi;have Hr:=Lib.hid hr;have Hf:=Lib.hid hf;have Hrc:=Lib.hid hrc;obtain ⟨ia,ic,rfl,_⟩:=hI;obtain ⟨ra,rc,rfl,_⟩:=hR;obtain ⟨ca,cc,rfl,_⟩:=hC
 have hmk8:∀w:World,(Instr.makeSlice 26 (.int .i64 8) (.int .i64 8)).run Tryz.prog w=.ok (.slice (some ⟨w.heap.size,0,none⟩) 8 8) (w.alloc (.cells #[.int .i64 0,.int .i64 0,.int .i64 0,.int .i64 0,.int .i64 0,.int .i64 0,.int .i64 0,.int .i64 0] 3)):=fun _=>by kernel_rfl
 obtain ⟨i0,hti,hz0,hz1,hz2⟩:=info_parts thrInfo;clear hi hr hf hrc
 go_enter Tryz.func12,Tryz.ntmps12
 go_wp2_with fail
 refine (newMem_any n codes.length _ hn (by omega)).mono ?_;rintro e w2 ⟨bm,bc,bw,rfl,hN,g1,g2,g3,l1,l2,l3,n12,n13,n23⟩;have P0:=PreRel.start (init:=init) hn hc6 hN g1 g2 g3 l1 l2 l3 n12 n13 n23
 have hb0:w.heap.size<w2.heap.size:=by have:=hN.below.size;simp at this;omega
 have HP0:=Lib.hid P0;clear hN g1 g2 g3 l1 l2 l3 n12 n13 n23 P0;go_wp2
 go_loopw [6] (fun i wr=>∃k:Nat,k≤init.length∧i=.int .i64 k∧w2.heap.size<wr.heap.size∧∃L,PreRel w w.heap.size w2.heap.size bm (.slice ia init.length ic) (.slice ra regs.length rc) n codes.length init k wr L) (fun i _=>init.length - (intOf i).toNat)
 case atStart=>exact ⟨0,Nat.zero_le _,rfl,by simp,_,HP0.out⟩
 case round=>
  rename_i wr
  obtain ⟨k,hk,rfl,hwr,L,P⟩:=hrel
  have hwr1:w.heap.size<wr.heap.size:=by omega
  have b1:wr.cell? ⟨w.heap.size,1,none⟩=some (.slice ia init.length ic):=by rw[cell_of_heap P.box];rfl
  have m0:wr.cell? ⟨w2.heap.size,0,none⟩=some (.pointer (some ⟨bm,0,none⟩)):=by rw[cell_of_heap P.mach];rfl
  by_cases hlt:k<init.length
  ·have hd:decide ((k:Int)<(init.length:Int))=true:=by simp;omega
   have hkn:(k:Int)<(n:Int):=by omega
   have hcall:=alloc_any P.rep rfl rfl rfl (preM_ok h1 hn hc6 Hi.out) P.ol (by omega);rw[P.top,preM_alloc (by omega)]at hcall;have HP:=Lib.hid P;have Hcall:=Lib.hid hcall;clear P hcall
   go_wp2_with fail
   refine Hcall.out.mono ?_;rintro e w5 (⟨i',n',ha,rfl,R1,hM1,hs1⟩|⟨ha,_⟩)
   case inr=>cases ha
   cases ha;have h20:=HP.out.foot _ ⟨2,0,rfl,by rw[obj2 ty _ HP.out.ol.n2];rfl,rfl⟩;obtain ⟨h20a,h20b,h20c⟩:=h20;obtain ⟨c0,c1,c6,k1,k2⟩:=HP.out.given (by omega) R1;have s0:w5.cell? ⟨w2.heap.size,0,none⟩=some (.pointer (some ⟨bm,0,none⟩)):=hM1.cell m0 (fun e=>h20c e.symm)
   have s1:w5.cell? ⟨w.heap.size,1,none⟩=some (.slice ia init.length ic):=hM1.cell b1 (fun e=>h20b e.symm);have hbelow5:Below w.heap.size w w5:=HP.out.below.trans (hM1.under HP.out.below.size fun j hj=>by omega);obtain ⟨l,hl⟩:∃l,init[k]?=some l:=⟨_,List.getElem?_eq_getElem hlt⟩
   obtain ⟨ia',ic',e',hrow⟩:=HI.out.keep hbelow5;cases e';obtain ⟨ib,ioff,u,rfl,hib,hu,hints,_⟩:=hrow k l hl;obtain ⟨sp,uc,rfl,hsrc⟩:=hints.src;have h4:=(Hi.out l (List.mem_of_getElem? hl)).1
   have hs5:w.heap.size<w5.heap.size:=by omega
   have hs52:w2.heap.size<w5.heap.size:=by omega
   have HR1:=Lib.hid R1;have HM1:=Lib.hid hM1;have Hc6:=Lib.hid c6;have Hl:=Lib.hid hl;have Hsrc:=Lib.hid hsrc;clear R1 hM1 c6 hl hsrc hrow hints hbelow5 b1 m0;go_wp2
   go_region_law (refine step_copy_mod rfl (.tmp 38) (.tmp 43) 26 26 rfl 3 Tryz.underlying26 intSize sp 4 4 l.length uc (wr.heap.size+1) 0 rfl rfl [.int .i64 0,.int .i64 0,.int .i64 0,.int .i64 0] 3 (by exact Hc6.out) (l.map (Value.int .i64)) (by rw[List.length_map];exact (Nat.min_eq_left h4).symm) (by exact Hsrc.out) (by simp;omega) (ints_one l) ?_;intro w6 hg6 hM6)
   all_goals
    have hg7:w6.heap[wr.heap.size+1]?=some (.cells ((pad 4 l).map (Value.int .i64)).toArray 3 (0,0)):=by rw[←pad_splice h4];exact hg6
    have hM7:=(Mod.drew (Mod.refl (fun x=>x=wr.heap.size+1) w5)).trans hM6 (fun _ _ h=>h);have Pn:=HP.out.next hwr1 hwr (by omega) Hl.out h4 HR1.out HM1.out hs1 hg7 hM7;have hw6:=hM7.size;have HPn:=Lib.hid Pn;clear hg6 hM6 hg7 hM7 Pn;go_wp2
    go_roundw
    case rel=>exact ⟨k+1,by omega,by go_num,by omega,_,HPn.out⟩
    case measure=>simp[intOf];omega
  ·have hd:decide ((k:Int)<(init.length:Int))=false:=by simp;omega
   obtain rfl:k=init.length:=by omega
   obtain ⟨wo,rfl⟩:∃wo:World,wo=wr:=⟨_,rfl⟩;have HP:=Lib.hid P;have HT:=Lib.hid (ThrRel.start P regs cv);clear P;have hfS:∀j,Foot ty memK L (preM n codes.length init init.length) j→w.heap.size≤j∧j<wo.heap.size∧j≠w2.heap.size:=fun j hj=>⟨(HP.out.foot j hj).1,HP.out.rep.lt hj,(HP.out.foot j hj).2.2⟩
   have HfS:=Lib.hid hfS;clear hfS;go_wp2;clear b1 m0
   go_loopw [7,8] (fun i _ wr=>∃k:Nat,k≤codes.length∧i=.int .i64 k∧wo.heap.size≤wr.heap.size∧∃v rb,ThrRel w wo.heap.size w.heap.size w2.heap.size bm (.slice ia init.length ic) (.slice ra regs.length rc) n L (preM n codes.length init init.length) regs cv k v rb wr) (fun i _ _=>codes.length - (intOf i).toNat)
   case atStart=>exact ⟨0,Nat.zero_le _,rfl,Nat.le_refl _,_,_,HT.out⟩
   case round=>
    obtain ⟨k,hk,rfl,hwr,v,rb,T⟩:=hrel
    have q1:wr.cell? ⟨w2.heap.size,1,none⟩=some v:=by rw[cell_of_heap T.mach];rfl
    have qf:=free_of_heap T.mach 1
    have q2:wr.cell? ⟨w.heap.size,2,none⟩=some (.slice ra regs.length rc):=by rw[cell_of_heap T.box];rfl
    have hq0:w.heap.size<wr.heap.size:=by omega
    have hq1:w2.heap.size<wr.heap.size:=by omega
    by_cases hlt:k<codes.length
    ·have hd:decide ((k:Int)<(codes.length:Int))=true:=by simp;omega
     by_cases hlt2:k<regs.length
     ·obtain ⟨c,hc⟩:∃c,codes[k]?=some c:=⟨_,List.getElem?_eq_getElem hlt⟩;obtain ⟨ca',cc',e',hcrow⟩:=HC.out.keep T.below;cases e';obtain ⟨cb,coff,rfl,hcb,hcc,hcode,_⟩:=hcrow k c hc;obtain ⟨ka,kc,ecv,_⟩:=hcode.at_;obtain ⟨l,hl⟩:∃l,regs[k]?=some l:=⟨_,List.getElem?_eq_getElem hlt2⟩
      obtain ⟨ra',rc',e',hrrow⟩:=HR.out.keep T.below;cases e';obtain ⟨rbk,roff,u,rfl,hrbk,hu,hints,_⟩:=hrrow k l hl;obtain ⟨sp,uc,rfl,hsrc⟩:=hints.src;have h8:=(Hr.out l (List.mem_of_getElem? hl)).1
      have hgd:regs.getD k []=l:=by simp[List.getD,hl]
      obtain ⟨va,vb,vc,rfl⟩:=slice_of_own T.row;rw[ecv]at hcc
      have hq01:w.heap.size<wr.heap.size+1:=by omega
      have hq11:w2.heap.size<wr.heap.size+1:=by omega
      have hcb1:cb<wr.heap.size+1:=by omega
      have hrb1:rbk<wr.heap.size+1:=by omega
      have Hsrc:=Lib.hid hsrc;have HT2:=Lib.hid T;have hvb:¬(Value.slice va vb vc).ownBlock=some w2.heap.size:=T.vown_ne (by omega);have Hvb:=Lib.hid hvb;have Hgd:=Lib.hid hgd;have Hecv:=Lib.hid ecv;clear T hvb hc hcrow hcode hl hrrow hints hsrc hgd ecv;go_wp2
      go_region
      all_goals go_wp2
      ·go_region_law (refine step_copy_mod rfl (.tmp 63) (.tmp 68) 26 26 rfl 3 Tryz.underlying26 intSize sp 8 8 l.length uc wr.heap.size 0 rfl rfl [.int .i64 0,.int .i64 0,.int .i64 0,.int .i64 0,.int .i64 0,.int .i64 0,.int .i64 0,.int .i64 0] 3 (by exact heap2_0 wr (.cells #[.int .i64 0,.int .i64 0,.int .i64 0,.int .i64 0,.int .i64 0,.int .i64 0,.int .i64 0,.int .i64 0] 3) (.cells #[.slice ka c.length kc,.slice (some ⟨wr.heap.size,0,none⟩) 8 8,.int .i64 0] 48)) (l.map (Value.int .i64)) (by rw[List.length_map];exact (Nat.min_eq_left h8).symm) (by exact src_keep Hsrc.out ((((Mod.refl noF wr).alloc (.cells #[.int .i64 0,.int .i64 0,.int .i64 0,.int .i64 0,.int .i64 0,.int .i64 0,.int .i64 0,.int .i64 0] 3)).alloc (.cells #[.slice ka c.length kc,.slice (some ⟨wr.heap.size,0,none⟩) 8 8,.int .i64 0] 48)).drew.drew)) (by simp;omega) (ints_one l) ?_;intro w6 hg6 hM6)
       all_goals
        have hMq:=copied hM6 (by omega);have x0:w6.cell? ⟨wr.heap.size+1,0,none⟩=some (.slice ka c.length kc):=hM6.cell (by simp) (by simp);have x1:w6.cell? ⟨wr.heap.size+1,1,none⟩=some (.slice (some ⟨wr.heap.size,0,none⟩) 8 8):=hM6.cell (by simp) (by simp)
        have x2:w6.cell? ⟨wr.heap.size+1,2,none⟩=some (.int .i64 0):=hM6.cell (by simp) (by simp);have y1:=hMq.cell q1 (fun e=>e);have yf:=(World.frozen?_of_block (hMq.block _ hq1 (fun e=>e))).trans qf
        have hy0:w2.heap.size<w6.heap.size:=by have:=hMq.size;omega
        have hy1:wr.heap.size+1<w6.heap.size:=by have:=hM6.size;simp at this;omega
        have hy2:wr.heap.size<w6.heap.size:=by omega
        have hg7:w6.heap[wr.heap.size]?=some (.cells ((pad 8 (regs.getD k [])).map (Value.int .i64)).toArray 3 (0,0)):=by rw[Hgd.out,←pad_splice h8];exact hg6
        have hrow6:w6.ownsRow 0 48 3 (.slice va vb vc) k (thrFlat cv rb k):=owns_keep HT2.out.row hMq;have Hg7:=Lib.hid hg7;have HMq:=Lib.hid hMq;have Hrow6:=Lib.hid hrow6
        have hbnd:k+1≤maxLen:=by unfold maxLen;omega
        clear hg6 hM6 hMq hg7 hrow6;go_wp2
        go_region_law (refine step_append_mine _ rfl (.tmp 74) (.tmp 76) 50 rfl 48 i0 (.agg #[.slice none 0 0,.slice none 0 0,.int .i64 0]) 3 56 Tryz.underlying50 hti hz0 hz1 hz2 rfl (by decide) _ k (thrFlat cv rb k) rfl (by exact World.ownsRow.alloc Hrow6.out _) ⟨w6.heap.size,0,none⟩ 1 1 [.slice ka c.length kc,.slice (some ⟨wr.heap.size,0,none⟩) 8 8,.int .i64 0] rfl rfl (new_cells w6 _ _) (thr_one _ _ _ _) hbnd (by omega) ?_;intro v4 w7 hown hgr hfr _;obtain ⟨xa,xb,xc,rfl⟩:=slice_of_own hown;have hm7:Mod (fun x=>(Value.slice va vb vc).ownBlock=some x) w6 w7:=appended hgr ((Mod.refl noF w6).alloc _).drew;have z1:=hm7.cell y1 Hvb.out;have zf:=(World.frozen?_of_block (hm7.block w2.heap.size hy0 Hvb.out)).trans yf;have hz7:=hm7.size;have Hown:=Lib.hid hown;have Hgr:=Lib.hid hgr;have Hfr:=Lib.hid hfr;clear hown hgr hfr hm7)
        all_goals
         go_wp2
         go_roundw
         case rel=>exact ⟨k+1,by omega,by go_num,by simp;omega,_,_,(HT2.out.next (by omega) (by omega) (by omega) (by omega) (by omega) (fun j hj=>(HfS.out j hj).2) ((HMq.out.alloc _).drew) (r:=wr.heap.size) (by omega) (((Mod.refl noF w6).alloc _).drew.heap Hg7.out (fun e=>e)) (by rw[Hecv.out];exact Hown.out) Hgr.out Hfr.out).quiet (by repeat (first|exact Mod.refl _ _|refine Mod.drew ?_|refine Mod.drewN ?_ _))⟩
         case measure=>simp[intOf];omega
      ·go_region_law (refine step_copy_mod rfl (.tmp 63) (.tmp 68) 26 26 rfl 3 Tryz.underlying26 intSize sp 8 8 l.length uc (wr.heap.size+1) 0 rfl rfl [.int .i64 0,.int .i64 0,.int .i64 0,.int .i64 0,.int .i64 0,.int .i64 0,.int .i64 0,.int .i64 0] 3 (by exact heap2_1 wr (.cells #[.slice ka c.length kc,.slice (some ⟨(wr.heap.size+1),0,none⟩) 8 8,.int .i64 0] 48) (.cells #[.int .i64 0,.int .i64 0,.int .i64 0,.int .i64 0,.int .i64 0,.int .i64 0,.int .i64 0,.int .i64 0] 3)) (l.map (Value.int .i64)) (by rw[List.length_map];exact (Nat.min_eq_left h8).symm) (by exact src_keep Hsrc.out ((((Mod.refl noF wr).alloc (.cells #[.slice ka c.length kc,.slice (some ⟨(wr.heap.size+1),0,none⟩) 8 8,.int .i64 0] 48)).alloc (.cells #[.int .i64 0,.int .i64 0,.int .i64 0,.int .i64 0,.int .i64 0,.int .i64 0,.int .i64 0,.int .i64 0] 3)).drew.drew)) (by simp;omega) (ints_one l) ?_;intro w6 hg6 hM6)
       all_goals
        have hMq:=copied hM6 (by omega);have x0:w6.cell? ⟨wr.heap.size,0,none⟩=some (.slice ka c.length kc):=hM6.cell (by simp) (by simp);have x1:w6.cell? ⟨wr.heap.size,1,none⟩=some (.slice (some ⟨(wr.heap.size+1),0,none⟩) 8 8):=hM6.cell (by simp) (by simp)
        have x2:w6.cell? ⟨wr.heap.size,2,none⟩=some (.int .i64 0):=hM6.cell (by simp) (by simp);have y1:=hMq.cell q1 (fun e=>e);have yf:=(World.frozen?_of_block (hMq.block _ hq1 (fun e=>e))).trans qf
        have hy0:w2.heap.size<w6.heap.size:=by have:=hMq.size;omega
        have hy1:wr.heap.size+1<w6.heap.size:=by have:=hM6.size;simp at this;omega
        have hy2:wr.heap.size<w6.heap.size:=by omega
        have hg7:w6.heap[(wr.heap.size+1)]?=some (.cells ((pad 8 (regs.getD k [])).map (Value.int .i64)).toArray 3 (0,0)):=by rw[Hgd.out,←pad_splice h8];exact hg6
        have hrow6:w6.ownsRow 0 48 3 (.slice va vb vc) k (thrFlat cv rb k):=owns_keep HT2.out.row hMq;have Hg7:=Lib.hid hg7;have HMq:=Lib.hid hMq;have Hrow6:=Lib.hid hrow6
        have hbnd:k+1≤maxLen:=by unfold maxLen;omega
        clear hg6 hM6 hMq hg7 hrow6;go_wp2
        go_region_law (refine step_append_mine _ rfl (.tmp 74) (.tmp 76) 50 rfl 48 i0 (.agg #[.slice none 0 0,.slice none 0 0,.int .i64 0]) 3 56 Tryz.underlying50 hti hz0 hz1 hz2 rfl (by decide) _ k (thrFlat cv rb k) rfl (by exact World.ownsRow.alloc Hrow6.out _) ⟨w6.heap.size,0,none⟩ 1 1 [.slice ka c.length kc,.slice (some ⟨(wr.heap.size+1),0,none⟩) 8 8,.int .i64 0] rfl rfl (new_cells w6 _ _) (thr_one _ _ _ _) hbnd (by omega) ?_;intro v4 w7 hown hgr hfr _;obtain ⟨xa,xb,xc,rfl⟩:=slice_of_own hown;have hm7:Mod (fun x=>(Value.slice va vb vc).ownBlock=some x) w6 w7:=appended hgr ((Mod.refl noF w6).alloc _).drew;have z1:=hm7.cell y1 Hvb.out;have zf:=(World.frozen?_of_block (hm7.block w2.heap.size hy0 Hvb.out)).trans yf;have hz7:=hm7.size;have Hown:=Lib.hid hown;have Hgr:=Lib.hid hgr;have Hfr:=Lib.hid hfr;clear hown hgr hfr hm7)
        all_goals
         go_wp2
         go_roundw
         case rel=>exact ⟨k+1,by omega,by go_num,by simp;omega,_,_,(HT2.out.next (by omega) (by omega) (by omega) (by omega) (by omega) (fun j hj=>(HfS.out j hj).2) ((HMq.out.alloc _).drew) (r:=wr.heap.size+1) (by omega) (((Mod.refl noF w6).alloc _).drew.heap Hg7.out (fun e=>e)) (by rw[Hecv.out];exact Hown.out) Hgr.out Hfr.out).quiet (by repeat (first|exact Mod.refl _ _|refine Mod.drew ?_|refine Mod.drewN ?_ _))⟩
         case measure=>simp[intOf];omega
     ·have hge:decide ((k:Int)<(regs.length:Int))=false:=by simp;omega
      obtain ⟨c,hc⟩:∃c,codes[k]?=some c:=⟨_,List.getElem?_eq_getElem hlt⟩;obtain ⟨ca',cc',e',hcrow⟩:=HC.out.keep T.below;cases e';obtain ⟨cb,coff,rfl,hcb,hcc,hcode,_⟩:=hcrow k c hc;obtain ⟨ka,kc,ecv,_⟩:=hcode.at_
      have hgd:regs.getD k []=[]:=by rw[List.getD_eq_getElem?_getD,List.getElem?_eq_none (by omega)];rfl
      obtain ⟨va,vb,vc,rfl⟩:=slice_of_own T.row;rw[ecv]at hcc
      have hq01:w.heap.size<wr.heap.size+1:=by omega
      have hq11:w2.heap.size<wr.heap.size+1:=by omega
      have hcb1:cb<wr.heap.size+1:=by omega
      have HT2:=Lib.hid T;have hvb:¬(Value.slice va vb vc).ownBlock=some w2.heap.size:=T.vown_ne (by omega);have Hvb:=Lib.hid hvb;have Hgd:=Lib.hid hgd;have Hecv:=Lib.hid ecv;clear T hvb hc hcrow hcode hgd ecv;go_wp2
      go_region
      all_goals go_wp2
      ·obtain ⟨w6,hw6⟩:∃w6,w6=((wr.alloc (.cells #[.int .i64 0,.int .i64 0,.int .i64 0,.int .i64 0,.int .i64 0,.int .i64 0,.int .i64 0,.int .i64 0] 3)).alloc (.cells #[.slice ka c.length kc,.slice (some ⟨wr.heap.size,0,none⟩) 8 8,.int .i64 0] 48)).drew:=⟨_,rfl⟩
       rw[←hw6]
       have hMq:Mod noF wr w6:=by rw[hw6];exact (((Mod.refl noF wr).alloc _).alloc _).drew
       have x0:w6.cell? ⟨wr.heap.size+1,0,none⟩=some (.slice ka c.length kc):=by rw[hw6];simp
       have x1:w6.cell? ⟨wr.heap.size+1,1,none⟩=some (.slice (some ⟨wr.heap.size,0,none⟩) 8 8):=by rw[hw6];simp
       have x2:w6.cell? ⟨wr.heap.size+1,2,none⟩=some (.int .i64 0):=by rw[hw6];simp
       have y1:=hMq.cell q1 (fun e=>e);have yf:=(World.frozen?_of_block (hMq.block _ hq1 (fun e=>e))).trans qf
       have hsz6:w6.heap.size=wr.heap.size+2:=by rw[hw6];simp
       have hy0:w2.heap.size<w6.heap.size:=by omega
       have hy1:wr.heap.size+1<w6.heap.size:=by omega
       have hy2:wr.heap.size<w6.heap.size:=by omega
       have hg7:w6.heap[wr.heap.size]?=some (.cells ((pad 8 (regs.getD k [])).map (Value.int .i64)).toArray 3 (0,0)):=by rw[Hgd.out,hw6];exact heap2_0 wr (.cells #[.int .i64 0,.int .i64 0,.int .i64 0,.int .i64 0,.int .i64 0,.int .i64 0,.int .i64 0,.int .i64 0] 3) (.cells #[.slice ka c.length kc,.slice (some ⟨wr.heap.size,0,none⟩) 8 8,.int .i64 0] 48)
       have hrow6:w6.ownsRow 0 48 3 (.slice va vb vc) k (thrFlat cv rb k):=owns_keep HT2.out.row hMq;have Hg7:=Lib.hid hg7;have HMq:=Lib.hid hMq;have Hrow6:=Lib.hid hrow6
       have hbnd:k+1≤maxLen:=by unfold maxLen;omega
       clear hMq hg7 hrow6 hw6 hsz6
       go_region_law (refine step_append_mine _ rfl (.tmp 74) (.tmp 76) 50 rfl 48 i0 (.agg #[.slice none 0 0,.slice none 0 0,.int .i64 0]) 3 56 Tryz.underlying50 hti hz0 hz1 hz2 rfl (by decide) _ k (thrFlat cv rb k) rfl (by exact World.ownsRow.alloc Hrow6.out _) ⟨w6.heap.size,0,none⟩ 1 1 [.slice ka c.length kc,.slice (some ⟨wr.heap.size,0,none⟩) 8 8,.int .i64 0] rfl rfl (new_cells w6 _ _) (thr_one _ _ _ _) hbnd (by omega) ?_;intro v4 w7 hown hgr hfr _;obtain ⟨xa,xb,xc,rfl⟩:=slice_of_own hown;have hm7:Mod (fun x=>(Value.slice va vb vc).ownBlock=some x) w6 w7:=appended hgr ((Mod.refl noF w6).alloc _).drew;have z1:=hm7.cell y1 Hvb.out;have zf:=(World.frozen?_of_block (hm7.block w2.heap.size hy0 Hvb.out)).trans yf;have hz7:=hm7.size;have Hown:=Lib.hid hown;have Hgr:=Lib.hid hgr;have Hfr:=Lib.hid hfr;clear hown hgr hfr hm7)
       all_goals
        go_wp2
        go_roundw
        case rel=>exact ⟨k+1,by omega,by go_num,by simp;omega,_,_,(HT2.out.next (by omega) (by omega) (by omega) (by omega) (by omega) (fun j hj=>(HfS.out j hj).2) ((HMq.out.alloc _).drew) (r:=wr.heap.size) (by omega) (((Mod.refl noF w6).alloc _).drew.heap Hg7.out (fun e=>e)) (by rw[Hecv.out];exact Hown.out) Hgr.out Hfr.out).quiet (by repeat (first|exact Mod.refl _ _|refine Mod.drew ?_|refine Mod.drewN ?_ _))⟩
        case measure=>simp[intOf];omega
      ·obtain ⟨w6,hw6⟩:∃w6,w6=((wr.alloc (.cells #[.slice ka c.length kc,.slice (some ⟨(wr.heap.size+1),0,none⟩) 8 8,.int .i64 0] 48)).alloc (.cells #[.int .i64 0,.int .i64 0,.int .i64 0,.int .i64 0,.int .i64 0,.int .i64 0,.int .i64 0,.int .i64 0] 3)).drew:=⟨_,rfl⟩
       rw[←hw6]
       have hMq:Mod noF wr w6:=by rw[hw6];exact (((Mod.refl noF wr).alloc _).alloc _).drew
       have x0:w6.cell? ⟨wr.heap.size,0,none⟩=some (.slice ka c.length kc):=by rw[hw6];simp
       have x1:w6.cell? ⟨wr.heap.size,1,none⟩=some (.slice (some ⟨wr.heap.size+1,0,none⟩) 8 8):=by rw[hw6];simp
       have x2:w6.cell? ⟨wr.heap.size,2,none⟩=some (.int .i64 0):=by rw[hw6];simp
       have y1:=hMq.cell q1 (fun e=>e);have yf:=(World.frozen?_of_block (hMq.block _ hq1 (fun e=>e))).trans qf
       have hsz6:w6.heap.size=wr.heap.size+2:=by rw[hw6];simp
       have hy0:w2.heap.size<w6.heap.size:=by omega
       have hy1:wr.heap.size+1<w6.heap.size:=by omega
       have hy2:wr.heap.size<w6.heap.size:=by omega
       have hg7:w6.heap[wr.heap.size+1]?=some (.cells ((pad 8 (regs.getD k [])).map (Value.int .i64)).toArray 3 (0,0)):=by rw[Hgd.out,hw6];exact heap2_1 wr (.cells #[.slice ka c.length kc,.slice (some ⟨(wr.heap.size+1),0,none⟩) 8 8,.int .i64 0] 48) (.cells #[.int .i64 0,.int .i64 0,.int .i64 0,.int .i64 0,.int .i64 0,.int .i64 0,.int .i64 0,.int .i64 0] 3)
       have hrow6:w6.ownsRow 0 48 3 (.slice va vb vc) k (thrFlat cv rb k):=owns_keep HT2.out.row hMq;have Hg7:=Lib.hid hg7;have HMq:=Lib.hid hMq;have Hrow6:=Lib.hid hrow6
       have hbnd:k+1≤maxLen:=by unfold maxLen;omega
       clear hMq hg7 hrow6 hw6 hsz6
       go_region_law (refine step_append_mine _ rfl (.tmp 74) (.tmp 76) 50 rfl 48 i0 (.agg #[.slice none 0 0,.slice none 0 0,.int .i64 0]) 3 56 Tryz.underlying50 hti hz0 hz1 hz2 rfl (by decide) _ k (thrFlat cv rb k) rfl (by exact World.ownsRow.alloc Hrow6.out _) ⟨w6.heap.size,0,none⟩ 1 1 [.slice ka c.length kc,.slice (some ⟨wr.heap.size+1,0,none⟩) 8 8,.int .i64 0] rfl rfl (new_cells w6 _ _) (thr_one _ _ _ _) hbnd (by omega) ?_;intro v4 w7 hown hgr hfr _;obtain ⟨xa,xb,xc,rfl⟩:=slice_of_own hown;have hm7:Mod (fun x=>(Value.slice va vb vc).ownBlock=some x) w6 w7:=appended hgr ((Mod.refl noF w6).alloc _).drew;have z1:=hm7.cell y1 Hvb.out;have zf:=(World.frozen?_of_block (hm7.block w2.heap.size hy0 Hvb.out)).trans yf;have hz7:=hm7.size;have Hown:=Lib.hid hown;have Hgr:=Lib.hid hgr;have Hfr:=Lib.hid hfr;clear hown hgr hfr hm7)
       all_goals
        go_wp2
        go_roundw
        case rel=>exact ⟨k+1,by omega,by go_num,by simp;omega,_,_,(HT2.out.next (by omega) (by omega) (by omega) (by omega) (by omega) (fun j hj=>(HfS.out j hj).2) ((HMq.out.alloc _).drew) (r:=wr.heap.size+1) (by omega) (((Mod.refl noF w6).alloc _).drew.heap Hg7.out (fun e=>e)) (by rw[Hecv.out];exact Hown.out) Hgr.out Hfr.out).quiet (by repeat (first|exact Mod.refl _ _|refine Mod.drew ?_|refine Mod.drewN ?_ _))⟩
        case measure=>simp[intOf];omega
    ·have hd:decide ((k:Int)<(codes.length:Int))=false:=by simp;omega
     obtain rfl:k=codes.length:=by omega
     have hfin:=T.machine2 (by omega) (by omega) (by omega) HfS.out HP.out.ol HP.out.top h1 hn hc1 hc6 Hi.out Hr.out Hf.out (fun i c hc=>by
      obtain ⟨ca',cc',e',hcrow⟩:=HC.out.keep T.below;obtain ⟨_,_,_,_,_,hcode,_⟩:=hcrow i c hc;obtain ⟨_,_,_,hcrow0⟩:=HC.out;obtain ⟨_,_,_,_,_,hcode0,_⟩:=hcrow0 i c hc
      exact ⟨hcode,hcode0.own⟩)
     obtain ⟨L',hM',hb',hcd',hft'⟩:=hfin;have HM':=Lib.hid hM';have Hb':=Lib.hid hb';have Hbl:=Lib.hid T.below;have Hft':=Lib.hid hft';have Hcd':=Lib.hid hcd';clear hM' hb' hft' hcd' T;go_wp2;go_ret;exact ⟨L',(by rw[Hb'.out];rfl),Hcd'.out,HM'.out,Hbl.out,Hft'.out⟩
end Go.Proofs.YtciaficoeajeaaaGreatDoor
