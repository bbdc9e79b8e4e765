/- quiescentref1.NewMachine. -/
import Derived.Test.YtppihkneeolomaaGreatDoorSSm6
import Derived.Test.YtppihkneeolomaaGreatDoorSSm2
import Derived.OwnWalk
import Derived.BigRegion
import Derived.Outline
set_option linter.unusedVariables false
set_option linter.unusedSimpArgs false
set_option linter.unusedSectionVars false
set_option maxHeartbeats 8000000
set_option maxRecDepth 100000
namespace Go.Proofs.YtppihkneeolomaaGreatDoor
open Go.RowKit Qs Qh
theorem PreRel.start{w w2:World}{bm bc bw n t:Nat}{iw rw_:Value}{init:List (List Int)}(hn:n≤64)(ht:t≤6)
  (N:NewRel (w.alloc (.cells #[.int .i64 n,iw,rw_] 40)) n t bm bc bw n w2) (g1:(w.alloc (.cells #[.int .i64 n,iw,rw_] 40)).heap.size≤bm) (g2:(w.alloc (.cells #[.int .i64 n,iw,rw_] 40)).heap.size≤bc) (g3:(w.alloc (.cells #[.int .i64 n,iw,rw_] 40)).heap.size≤bw)
  (l1:bm<(w.alloc (.cells #[.int .i64 n,iw,rw_] 40)).heap.size+3) (l2:bc<(w.alloc (.cells #[.int .i64 n,iw,rw_] 40)).heap.size+3) (l3:bw<(w.alloc (.cells #[.int .i64 n,iw,rw_] 40)).heap.size+3) (n12:bm≠bc) (n13:bm≠bw) (n23:bc≠bw) :
  PreRel w w.heap.size w2.heap.size bm iw rw_ n t init 0 (w2.alloc (.cells #[.pointer (some ⟨bm,0,none⟩),.slice none 0 0,.slice none 0 0,.int .i64 0] 51)) (newL bm bc bw ((w.alloc (.cells #[.int .i64 n,iw,rw_] 40)).heap.size+3)):=by
 have hs:=N.size
 have hW1:(w.alloc (.cells #[.int .i64 n,iw,rw_] 40)).heap.size=w.heap.size+1:=by simp
 have R:=newM_rep (τ:=ty) N.mem N.cells N.waits N.words l1 l2 l3 n12 n13 n23;have hbox:=(Mod.below N.below).heap (heap_alloc_new w (.cells #[.int .i64 n,iw,rw_] 40)) (fun e=>e)
 have hB:Below w.heap.size w w2:=(((Mod.refl noF w).alloc _).trans0 (Mod.below N.below)).toBelow;have hM:Mod noF w2 (w2.alloc (.cells #[.pointer (some ⟨bm,0,none⟩),.slice none 0 0,.slice none 0 0,.int .i64 0] 51)):=(Mod.refl _ _).alloc _
 refine ⟨?_,?_,?_,?_,rfl,fun _=>rfl,hM.heap hbox (fun e=>e),heap_alloc_new w2 _⟩
 ·rw[preM_zero];exact R.frame0 hM
 ·rw[preM_zero];exact newL_ok hn ht
 ·exact hB.trans (hM.toBelow.mono hB.size)
 ·intro k hk;rw[preM_zero]at hk;have h2:=R.lt hk;obtain ⟨a,i,hK,hso,rfl⟩:=hk
  have:(newL bm bc bw ((w.alloc (.cells #[.int .i64 n,iw,rw_] 40)).heap.size+3)).blk a i≥w.heap.size+1:=by
   simp only[memK,Bool.or_eq_true,beq_iff_eq]at hK
   rcases hK with (((rfl|rfl)|rfl)|rfl)|rfl <;> simp only[newL] <;> omega
  omega
theorem copied{w w6:World}{a b:Obj}{r:Nat}(h:Mod (fun x=>x=r) ((w.alloc a).alloc b).drew.drew w6)(hr:w.heap.size≤r):Mod noF w w6:=
 ((((Mod.refl noF w).alloc a).alloc b).drew.drew).trans h fun x hx e=>absurd e (by omega)
theorem heap2_1(w:World)(a b:Obj):((w.alloc a).alloc b).heap[w.heap.size+1]?=some b:=by
 have h0:=heap_alloc_new (w.alloc a) b
 simpa using h0
theorem src_keep{w w':World}{sp:Option Addr}{cs:List Value}(h:0<cs.length→∃ad,sp=some ad∧∀j v,cs[j]?=some v→w.cell? (ad.add j)=some v)(hM:Mod noF w w') :
  0<cs.length→∃ad,sp=some ad∧∀j v,cs[j]?=some v→w'.cell? (ad.add j)=some v:=fun h0=>by
 obtain ⟨ad,e,hx⟩:=h h0;exact ⟨ad,e,fun j x hj=>hM.cell (hx j x hj) (fun e=>e)⟩
theorem thr_one(a:Option Addr)(b c r:Nat):∀u∈[Value.slice a b c,.slice (some ⟨r,0,none⟩) 8 8,.int .i64 0],u.oneCell'=true:=by
 intro u hu;simp at hu
 rcases hu with rfl|rfl|rfl <;> rfl
theorem ThrRel.vown_ne{W wr:World}{S bs b0 bm n k:Nat}{iw rw_ v:Value}{L:Lay}{m1:M}{regs:List (List Int)}{cv:Nat→Value}{rb:Nat→Nat}(h:ThrRel W S bs b0 bm iw rw_ n L m1 regs cv k v rb wr)(hb:b0<S):¬v.ownBlock=some b0:=fun e=>by
 have:=h.vown _ e;omega
theorem owns_keep{w w':World}{T:TypeId}{sz k:Nat}{v:Value}{xs:List Value}(h:w.ownsRow 0 T sz v k xs)(hM:Mod noF w w'):w'.ownsRow 0 T sz v k xs:=by
 refine ⟨h.1,?_⟩
 rcases h.2 with e|⟨g,cap,cur,rfl,h0,hg,r⟩
 ·exact .inl e
 ·exact .inr ⟨g,cap,cur,rfl,h0,hM.heap hg (fun e=>e),r⟩
theorem heap2_0(w:World)(a b:Obj):((w.alloc a).alloc b).heap[w.heap.size]?=some a:=by
 have h0:=heap_alloc_new w a;exact (Below.heap_alloc (w.alloc a) b _ (lt_of_block h0)).trans h0
theorem thrInfo:(Tryz.prog.info? 73).map (fun i=>(i.zero,i.size,i.bytes))=some (some (.agg #[.slice none 0 0,.slice none 0 0,.int .i64 0]),3,56):=by kernel_rfl
theorem ThrRel.start{w wr:World}{bs b0 bm n:Nat}{iw rw_:Value}{L:Lay}{t:Nat}{init:List (List Int)}{i:Nat}(P:PreRel w bs b0 bm iw rw_ n t init i wr L)(regs:List (List Int))(cv:Nat→Value) :
  ThrRel w wr.heap.size bs b0 bm iw rw_ n L (preM n t init i) regs cv 0 (.slice none 0 0) (fun _=>0) wr:=
 ⟨P.rep,P.below,Nat.le_refl _,P.mach,P.box,World.ownsRow_nil wr 0 _ 3,(fun g h=>by cases h),(fun i h=>absurd h (by omega)),(fun i h=>absurd h (by omega)),(fun i j h=>absurd h (by omega)),(fun g i h=>by cases h)⟩
theorem PreRel.given{W wr w5:World}{bs b0 bm n t k:Nat}{iw rw_:Value}{init:List (List Int)}{L:Lay}(P:PreRel W bs b0 bm iw rw_ n t init k wr L)(hk:k<n)
  (R1:Rep ty memK w5 (L.words k (wr.heap.size+1)) {(preM n t init k)with cells:=(preM n t init k).cells.set k (zeroCell (0+1))}) :
  w5.cell? ⟨bm,0,none⟩=some (.slice (some ⟨L.blk 2 0,0,none⟩) n (n+L.sp 2 0))∧w5.cell? ⟨L.blk 2 0,k*3,none⟩=some (.slice (some ⟨wr.heap.size+1,0,none⟩) 4 4)∧
  w5.heap[wr.heap.size+1]?=some (.cells [Value.int .i64 0,.int .i64 0,.int .i64 0,.int .i64 0].toArray 3 (0,0))∧bm<w5.heap.size∧L.blk 2 0<w5.heap.size:=by
 have hgt:({(preM n t init k)with cells:=(preM n t init k).cells.set k (zeroCell (0+1))}:M).cells[k]?=some (zeroCell 1):=by
  show ((preM n t init k).cells.set k (zeroCell (0+1)))[k]?=_;rw[List.getElem?_set];simp[preM_len,hk]
 have ol':=words_ok (i:=k) (b:=wr.heap.size+1) (t:=0+1) P.ol;have c0:=R1.cells_at rfl ol';have c1:=(R1.cell_at rfl ol' hgt).1
 have e10:(L.words k (wr.heap.size+1)).blk 1 0=bm:=by rw[words_blk L k _ 1 0 (by omega)];exact P.top
 have e20:(L.words k (wr.heap.size+1)).blk 2 0=L.blk 2 0:=words_blk L k _ 2 0 (by omega)
 have e60:(L.words k (wr.heap.size+1)).blk 6 k=wr.heap.size+1:=by simp[Lay.words]
 have es2:(L.words k (wr.heap.size+1)).sp 2 0=L.sp 2 0:=by simp[Lay.words]
 have es6:(L.words k (wr.heap.size+1)).sp 6 k=0:=by simp[Lay.words]
 have el:({(preM n t init k)with cells:=(preM n t init k).cells.set k (zeroCell (0+1))}:M).cells.length=n:=by
  show ((preM n t init k).cells.set k (zeroCell (0+1))).length=n;simp[preM_len]
 rw[e10,e20,es2,el]at c0;rw[e20,e60,es6]at c1;have ho6:=obj6 ty (L:=L.words k (wr.heap.size+1)) (by simp[Lay.words]) hgt;have h6:=R1.at_ 6 k _ _ rfl ho6;rw[e60]at h6;have l1:=R1.lt1 rfl;have l2:=R1.lt2 rfl ol';rw[e10]at l1;rw[e20]at l2;refine ⟨c0,c1,?_,l1,l2⟩;refine Eq.trans h6 ?_
 simp[Lay.words,zeroCell,iv];rfl
theorem ThrRel.quiet{W wr w':World}{S bs b0 bm n k:Nat}{iw rw_ v:Value}{L:Lay}{m1:M}{regs:List (List Int)}{cv:Nat→Value}{rb:Nat→Nat}(h:ThrRel W S bs b0 bm iw rw_ n L m1 regs cv k v rb wr)(hq:Mod noF wr w'):ThrRel W S bs b0 bm iw rw_ n L m1 regs cv k v rb w':=
 ⟨h.rep.frame0 hq,h.below.trans (hq.toBelow.mono h.below.size),Nat.le_trans h.size hq.size,hq.heap h.mach (fun e=>e),hq.heap h.box (fun e=>e),owns_keep h.row hq,h.vown,fun i hi=>hq.heap (h.regs_ i hi) (fun e=>e),h.rbs,h.inj,h.vne⟩
theorem newMachine_ok(n:Nat)(iw rw_ cw:Value)(init regs:List (List Int))(codes:List (List Instr))(cv:Nat→Value)(w:World)(hI:Qh.RowsAt w iw init)(hR:Qh.RowsAt w rw_ regs)(hC:CodesAt w cw codes cv)
  (h1:1≤n) (hn:n≤64) (hc1:1≤codes.length) (hc6:codes.length≤6) (hin:init.length≤n) (hrc:regs.length=codes.length) (hi:RowsFine 4 init) (hr:RowsFine 8 regs) (hf:∀c∈codes,CodeFine c) :
  Calls Tryz.prog 15 #[.agg #[.int .i64 n,iw,rw_],cw] w fun e w'=>∃L',e=.returned (.pointer (some ⟨L'.blk 0 0,0,none⟩))∧Mach ty w' L' (startM n init regs codes) 1∧Below w.heap.size w w'∧∀j,Foot ty allK L' (startM n init regs codes) j→w.heap.size≤j:=by
 have HI:=Lib.hid hI;have HR:=Lib.hid hR;have HC:=Lib.hid hC;have Hi:=Lib.hid hi;have Hr:=Lib.hid hr;have Hf:=Lib.hid hf;have Hrc:=Lib.hid hrc;obtain ⟨ia,ic,rfl,_⟩:=hI;obtain ⟨ra,rc,rfl,_⟩:=hR;obtain ⟨ca,cc,rfl,_⟩:=hC
 have hmk8:∀w:World,(Instr.makeSlice 23 (.int .i64 8) (.int .i64 8)).run Tryz.prog w=.ok (.slice (some ⟨w.heap.size,0,none⟩) 8 8) (w.alloc (.cells #[.int .i64 0,.int .i64 0,.int .i64 0,.int .i64 0,.int .i64 0,.int .i64 0,.int .i64 0,.int .i64 0] 3)):=fun _=>by kernel_rfl
 obtain ⟨i0,hti,hz0,hz1,hz2⟩:=info_parts thrInfo;clear hi hr hf hrc
 go_enter Tryz.func15,Tryz.ntmps15
 go_wp2_with fail
 refine (newMem_any n codes.length _ hn (by omega)).mono ?_;rintro e w2 ⟨bm,bc,bw,rfl,hN,g1,g2,g3,l1,l2,l3,n12,n13,n23⟩;have P0:=PreRel.start (init:=init) hn hc6 hN g1 g2 g3 l1 l2 l3 n12 n13 n23
 have hb0:w.heap.size<w2.heap.size:=by have:=hN.below.size;simp at this;omega
 have HP0:=Lib.hid P0;clear hN g1 g2 g3 l1 l2 l3 n12 n13 n23 P0;go_wp2
 go_loopw [6] (fun i wr=>∃k:Nat,k≤init.length∧i=.int .i64 k∧w2.heap.size<wr.heap.size∧∃L,PreRel w w.heap.size w2.heap.size bm (.slice ia init.length ic) (.slice ra regs.length rc) n codes.length init k wr L) (fun i _=>init.length - (intOf i).toNat)
 case atStart=>exact ⟨0,Nat.zero_le _,rfl,by simp,_,HP0.out⟩
 case round=>
  rename_i wr
  obtain ⟨k,hk,rfl,hwr,L,P⟩:=hrel
  have hwr1:w.heap.size<wr.heap.size:=by omega
  have b1:wr.cell? ⟨w.heap.size,1,none⟩=some (.slice ia init.length ic):=by rw[cell_of_heap P.box];rfl
  have m0:wr.cell? ⟨w2.heap.size,0,none⟩=some (.pointer (some ⟨bm,0,none⟩)):=by rw[cell_of_heap P.mach];rfl
  by_cases hlt:k<init.length
  ·have hd:decide ((k:Int)<(init.length:Int))=true:=by simp;omega
   have hkn:(k:Int)<(n:Int):=by omega
   have hcall:=alloc_any P.rep rfl rfl rfl (preM_ok h1 hn hc6 Hi.out) P.ol (by omega);rw[P.top,preM_alloc (by omega)]at hcall;have HP:=Lib.hid P;have Hcall:=Lib.hid hcall;clear P hcall
   go_wp2_with fail
   refine Hcall.out.mono ?_;rintro e w5 (⟨i',n',ha,rfl,R1,hM1,hs1⟩|⟨ha,_⟩)
   case inr=>cases ha
   cases ha;have h20:=HP.out.foot _ ⟨2,0,rfl,by rw[obj2 ty _ HP.out.ol.n2];rfl,rfl⟩;obtain ⟨h20a,h20b,h20c⟩:=h20;obtain ⟨c0,c1,c6,k1,k2⟩:=HP.out.given (by omega) R1;have s0:w5.cell? ⟨w2.heap.size,0,none⟩=some (.pointer (some ⟨bm,0,none⟩)):=hM1.cell m0 (fun e=>h20c e.symm)
   have s1:w5.cell? ⟨w.heap.size,1,none⟩=some (.slice ia init.length ic):=hM1.cell b1 (fun e=>h20b e.symm);have hbelow5:Below w.heap.size w w5:=HP.out.below.trans (hM1.under HP.out.below.size fun j hj=>by omega);obtain ⟨l,hl⟩:∃l,init[k]?=some l:=⟨_,List.getElem?_eq_getElem hlt⟩
   obtain ⟨ia',ic',e',hrow⟩:=HI.out.keep hbelow5;cases e';obtain ⟨ib,ioff,u,rfl,hib,hu,hints,_⟩:=hrow k l hl;obtain ⟨sp,uc,rfl,hsrc⟩:=hints.src;have h4:=(Hi.out l (List.mem_of_getElem? hl)).1
   have hs5:w.heap.size<w5.heap.size:=by omega
   have hs52:w2.heap.size<w5.heap.size:=by omega
   have HR1:=Lib.hid R1;have HM1:=Lib.hid hM1;have Hc6:=Lib.hid c6;have Hl:=Lib.hid hl;have Hsrc:=Lib.hid hsrc;clear R1 hM1 c6 hl hsrc hrow hints hbelow5 b1 m0;go_wp2
   go_region_law (refine step_copy_mod rfl (.tmp 38) (.tmp 43) 23 23 rfl 3 Tryz.underlying23 intSize sp 4 4 l.length uc (wr.heap.size+1) 0 rfl rfl [.int .i64 0,.int .i64 0,.int .i64 0,.int .i64 0] 3 (by exact Hc6.out) (l.map (Value.int .i64)) (by rw[List.length_map];exact (Nat.min_eq_left h4).symm) (by exact Hsrc.out) (by simp;omega) (ints_one l) ?_;intro w6 hg6 hM6)
   all_goals
    have hg7:w6.heap[wr.heap.size+1]?=some (.cells ((pad 4 l).map (Value.int .i64)).toArray 3 (0,0)):=by rw[←pad_splice h4];exact hg6
    have hM7:=(Mod.drew (Mod.refl (fun x=>x=wr.heap.size+1) w5)).trans hM6 (fun _ _ h=>h);have Pn:=HP.out.next hwr1 hwr (by omega) Hl.out h4 HR1.out HM1.out hs1 hg7 hM7;have hw6:=hM7.size;have HPn:=Lib.hid Pn;clear hg6 hM6 hg7 hM7 Pn;go_wp2
    go_roundw
    case rel=>exact ⟨k+1,by omega,by go_num,by omega,_,HPn.out⟩
    case measure=>simp[intOf];omega
  ·have hd:decide ((k:Int)<(init.length:Int))=false:=by simp;omega
   obtain rfl:k=init.length:=by omega
   obtain ⟨wo,rfl⟩:∃wo:World,wo=wr:=⟨_,rfl⟩;have HP:=Lib.hid P;have HT:=Lib.hid (ThrRel.start P regs cv);clear P;have hfS:∀j,Foot ty memK L (preM n codes.length init init.length) j→w.heap.size≤j∧j<wo.heap.size∧j≠w2.heap.size:=fun j hj=>⟨(HP.out.foot j hj).1,HP.out.rep.lt hj,(HP.out.foot j hj).2.2⟩
   have HfS:=Lib.hid hfS;clear hfS;go_wp2;clear b1 m0
   go_loopw [7,8] (fun i _ wr=>∃k:Nat,k≤codes.length∧i=.int .i64 k∧wo.heap.size≤wr.heap.size∧∃v rb,ThrRel w wo.heap.size w.heap.size w2.heap.size bm (.slice ia init.length ic) (.slice ra regs.length rc) n L (preM n codes.length init init.length) regs cv k v rb wr) (fun i _ _=>codes.length - (intOf i).toNat)
   case atStart=>exact ⟨0,Nat.zero_le _,rfl,Nat.le_refl _,_,_,HT.out⟩
   case round=>
    obtain ⟨k,hk,rfl,hwr,v,rb,T⟩:=hrel
    have q1:wr.cell? ⟨w2.heap.size,1,none⟩=some v:=by rw[cell_of_heap T.mach];rfl
    have qf:=free_of_heap T.mach 1
    have q2:wr.cell? ⟨w.heap.size,2,none⟩=some (.slice ra regs.length rc):=by rw[cell_of_heap T.box];rfl
    have hq0:w.heap.size<wr.heap.size:=by omega
    have hq1:w2.heap.size<wr.heap.size:=by omega
    by_cases hlt:k<codes.length
    ·have hd:decide ((k:Int)<(codes.length:Int))=true:=by simp;omega
     have hlt2:k<regs.length:=by have:=Hrc.out;omega
     obtain ⟨c,hc⟩:∃c,codes[k]?=some c:=⟨_,List.getElem?_eq_getElem hlt⟩;obtain ⟨ca',cc',e',hcrow⟩:=HC.out.keep T.below;cases e';obtain ⟨cb,coff,rfl,hcb,hcc,hcode,_⟩:=hcrow k c hc;obtain ⟨ka,kc,ecv,_⟩:=hcode.at_;obtain ⟨l,hl⟩:∃l,regs[k]?=some l:=⟨_,List.getElem?_eq_getElem (by have:=Hrc.out;omega)⟩
     obtain ⟨ra',rc',e',hrrow⟩:=HR.out.keep T.below;cases e';obtain ⟨rbk,roff,u,rfl,hrbk,hu,hints,_⟩:=hrrow k l hl;obtain ⟨sp,uc,rfl,hsrc⟩:=hints.src;have h8:=(Hr.out l (List.mem_of_getElem? hl)).1
     have hgd:regs.getD k []=l:=by simp[List.getD,hl]
     obtain ⟨va,vb,vc,rfl⟩:=slice_of_own T.row;rw[ecv]at hcc
     have hq01:w.heap.size<wr.heap.size+1:=by omega
     have hq11:w2.heap.size<wr.heap.size+1:=by omega
     have hcb1:cb<wr.heap.size+1:=by omega
     have hrb1:rbk<wr.heap.size+1:=by omega
     have Hsrc:=Lib.hid hsrc;have HT2:=Lib.hid T;have hvb:¬(Value.slice va vb vc).ownBlock=some w2.heap.size:=T.vown_ne (by omega);have Hvb:=Lib.hid hvb;have Hgd:=Lib.hid hgd;have Hecv:=Lib.hid ecv;clear T hvb hc hcrow hcode hl hrrow hints hsrc hgd ecv;go_wp2
     go_region
     all_goals go_wp2
     ·go_region_law (refine step_copy_mod rfl (.tmp 63) (.tmp 68) 23 23 rfl 3 Tryz.underlying23 intSize sp 8 8 l.length uc wr.heap.size 0 rfl rfl [.int .i64 0,.int .i64 0,.int .i64 0,.int .i64 0,.int .i64 0,.int .i64 0,.int .i64 0,.int .i64 0] 3 (by exact heap2_0 wr (.cells #[.int .i64 0,.int .i64 0,.int .i64 0,.int .i64 0,.int .i64 0,.int .i64 0,.int .i64 0,.int .i64 0] 3) (.cells #[.slice ka c.length kc,.slice (some ⟨wr.heap.size,0,none⟩) 8 8,.int .i64 0] 73)) (l.map (Value.int .i64)) (by rw[List.length_map];exact (Nat.min_eq_left h8).symm) (by exact src_keep Hsrc.out ((((Mod.refl noF wr).alloc (.cells #[.int .i64 0,.int .i64 0,.int .i64 0,.int .i64 0,.int .i64 0,.int .i64 0,.int .i64 0,.int .i64 0] 3)).alloc (.cells #[.slice ka c.length kc,.slice (some ⟨wr.heap.size,0,none⟩) 8 8,.int .i64 0] 73)).drew.drew)) (by simp;omega) (ints_one l) ?_;intro w6 hg6 hM6)
      all_goals
       have hMq:=copied hM6 (by omega);have x0:w6.cell? ⟨wr.heap.size+1,0,none⟩=some (.slice ka c.length kc):=hM6.cell (by simp) (by simp);have x1:w6.cell? ⟨wr.heap.size+1,1,none⟩=some (.slice (some ⟨wr.heap.size,0,none⟩) 8 8):=hM6.cell (by simp) (by simp)
       have x2:w6.cell? ⟨wr.heap.size+1,2,none⟩=some (.int .i64 0):=hM6.cell (by simp) (by simp);have y1:=hMq.cell q1 (fun e=>e);have yf:=(World.frozen?_of_block (hMq.block _ hq1 (fun e=>e))).trans qf
       have hy0:w2.heap.size<w6.heap.size:=by have:=hMq.size;omega
       have hy1:wr.heap.size+1<w6.heap.size:=by have:=hM6.size;simp at this;omega
       have hy2:wr.heap.size<w6.heap.size:=by omega
       have hg7:w6.heap[wr.heap.size]?=some (.cells ((pad 8 (regs.getD k [])).map (Value.int .i64)).toArray 3 (0,0)):=by rw[Hgd.out,←pad_splice h8];exact hg6
       have hrow6:w6.ownsRow 0 73 3 (.slice va vb vc) k (thrFlat cv rb k):=owns_keep HT2.out.row hMq;have Hg7:=Lib.hid hg7;have HMq:=Lib.hid hMq;have Hrow6:=Lib.hid hrow6
       have hbnd:k+1≤maxLen:=by unfold maxLen;omega
       clear hg6 hM6 hMq hg7 hrow6;go_wp2
       go_region_law (refine step_append_mine _ rfl (.tmp 74) (.tmp 76) 48 rfl 73 i0 (.agg #[.slice none 0 0,.slice none 0 0,.int .i64 0]) 3 56 Tryz.underlying48 hti hz0 hz1 hz2 rfl (by decide) _ k (thrFlat cv rb k) rfl (by exact World.ownsRow.alloc Hrow6.out _) ⟨w6.heap.size,0,none⟩ 1 1 [.slice ka c.length kc,.slice (some ⟨wr.heap.size,0,none⟩) 8 8,.int .i64 0] rfl rfl (new_cells w6 _ _) (thr_one _ _ _ _) hbnd (by omega) ?_;intro v4 w7 hown hgr hfr _;obtain ⟨xa,xb,xc,rfl⟩:=slice_of_own hown;have hm7:Mod (fun x=>(Value.slice va vb vc).ownBlock=some x) w6 w7:=appended hgr ((Mod.refl noF w6).alloc _).drew;have z1:=hm7.cell y1 Hvb.out;have zf:=(World.frozen?_of_block (hm7.block w2.heap.size hy0 Hvb.out)).trans yf;have hz7:=hm7.size;have Hown:=Lib.hid hown;have Hgr:=Lib.hid hgr;have Hfr:=Lib.hid hfr;clear hown hgr hfr hm7)
       all_goals
        go_wp2
        go_roundw
        case rel=>exact ⟨k+1,by omega,by go_num,by simp;omega,_,_,(HT2.out.next (by omega) (by omega) (by omega) (by omega) (by omega) (fun j hj=>(HfS.out j hj).2) ((HMq.out.alloc _).drew) (r:=wr.heap.size) (by omega) (((Mod.refl noF w6).alloc _).drew.heap Hg7.out (fun e=>e)) (by rw[Hecv.out];exact Hown.out) Hgr.out Hfr.out).quiet (by repeat (first|exact Mod.refl _ _|refine Mod.drew ?_|refine Mod.drewN ?_ _))⟩
        case measure=>simp[intOf];omega
     ·go_region_law (refine step_copy_mod rfl (.tmp 63) (.tmp 68) 23 23 rfl 3 Tryz.underlying23 intSize sp 8 8 l.length uc (wr.heap.size+1) 0 rfl rfl [.int .i64 0,.int .i64 0,.int .i64 0,.int .i64 0,.int .i64 0,.int .i64 0,.int .i64 0,.int .i64 0] 3 (by exact heap2_1 wr (.cells #[.slice ka c.length kc,.slice (some ⟨(wr.heap.size+1),0,none⟩) 8 8,.int .i64 0] 73) (.cells #[.int .i64 0,.int .i64 0,.int .i64 0,.int .i64 0,.int .i64 0,.int .i64 0,.int .i64 0,.int .i64 0] 3)) (l.map (Value.int .i64)) (by rw[List.length_map];exact (Nat.min_eq_left h8).symm) (by exact src_keep Hsrc.out ((((Mod.refl noF wr).alloc (.cells #[.slice ka c.length kc,.slice (some ⟨(wr.heap.size+1),0,none⟩) 8 8,.int .i64 0] 73)).alloc (.cells #[.int .i64 0,.int .i64 0,.int .i64 0,.int .i64 0,.int .i64 0,.int .i64 0,.int .i64 0,.int .i64 0] 3)).drew.drew)) (by simp;omega) (ints_one l) ?_;intro w6 hg6 hM6)
      all_goals
       have hMq:=copied hM6 (by omega);have x0:w6.cell? ⟨wr.heap.size,0,none⟩=some (.slice ka c.length kc):=hM6.cell (by simp) (by simp);have x1:w6.cell? ⟨wr.heap.size,1,none⟩=some (.slice (some ⟨(wr.heap.size+1),0,none⟩) 8 8):=hM6.cell (by simp) (by simp)
       have x2:w6.cell? ⟨wr.heap.size,2,none⟩=some (.int .i64 0):=hM6.cell (by simp) (by simp);have y1:=hMq.cell q1 (fun e=>e);have yf:=(World.frozen?_of_block (hMq.block _ hq1 (fun e=>e))).trans qf
       have hy0:w2.heap.size<w6.heap.size:=by have:=hMq.size;omega
       have hy1:wr.heap.size+1<w6.heap.size:=by have:=hM6.size;simp at this;omega
       have hy2:wr.heap.size<w6.heap.size:=by omega
       have hg7:w6.heap[(wr.heap.size+1)]?=some (.cells ((pad 8 (regs.getD k [])).map (Value.int .i64)).toArray 3 (0,0)):=by rw[Hgd.out,←pad_splice h8];exact hg6
       have hrow6:w6.ownsRow 0 73 3 (.slice va vb vc) k (thrFlat cv rb k):=owns_keep HT2.out.row hMq;have Hg7:=Lib.hid hg7;have HMq:=Lib.hid hMq;have Hrow6:=Lib.hid hrow6
       have hbnd:k+1≤maxLen:=by unfold maxLen;omega
       clear hg6 hM6 hMq hg7 hrow6;go_wp2
       go_region_law (refine step_append_mine _ rfl (.tmp 74) (.tmp 76) 48 rfl 73 i0 (.agg #[.slice none 0 0,.slice none 0 0,.int .i64 0]) 3 56 Tryz.underlying48 hti hz0 hz1 hz2 rfl (by decide) _ k (thrFlat cv rb k) rfl (by exact World.ownsRow.alloc Hrow6.out _) ⟨w6.heap.size,0,none⟩ 1 1 [.slice ka c.length kc,.slice (some ⟨(wr.heap.size+1),0,none⟩) 8 8,.int .i64 0] rfl rfl (new_cells w6 _ _) (thr_one _ _ _ _) hbnd (by omega) ?_;intro v4 w7 hown hgr hfr _;obtain ⟨xa,xb,xc,rfl⟩:=slice_of_own hown;have hm7:Mod (fun x=>(Value.slice va vb vc).ownBlock=some x) w6 w7:=appended hgr ((Mod.refl noF w6).alloc _).drew;have z1:=hm7.cell y1 Hvb.out;have zf:=(World.frozen?_of_block (hm7.block w2.heap.size hy0 Hvb.out)).trans yf;have hz7:=hm7.size;have Hown:=Lib.hid hown;have Hgr:=Lib.hid hgr;have Hfr:=Lib.hid hfr;clear hown hgr hfr hm7)
       all_goals
        go_wp2
        go_roundw
        case rel=>exact ⟨k+1,by omega,by go_num,by simp;omega,_,_,(HT2.out.next (by omega) (by omega) (by omega) (by omega) (by omega) (fun j hj=>(HfS.out j hj).2) ((HMq.out.alloc _).drew) (r:=wr.heap.size+1) (by omega) (((Mod.refl noF w6).alloc _).drew.heap Hg7.out (fun e=>e)) (by rw[Hecv.out];exact Hown.out) Hgr.out Hfr.out).quiet (by repeat (first|exact Mod.refl _ _|refine Mod.drew ?_|refine Mod.drewN ?_ _))⟩
        case measure=>simp[intOf];omega
    ·have hd:decide ((k:Int)<(codes.length:Int))=false:=by simp;omega
     obtain rfl:k=codes.length:=by omega
     have hfin:=T.machine (by omega) (by omega) (by omega) HfS.out HP.out.ol HP.out.top h1 hn hc1 hc6 Hi.out Hr.out Hf.out (fun i c hc=>by
      obtain ⟨ca',cc',e',hcrow⟩:=HC.out.keep T.below;obtain ⟨_,_,_,_,_,hcode,_⟩:=hcrow i c hc;obtain ⟨_,_,_,hcrow0⟩:=HC.out;obtain ⟨_,_,_,_,_,_,hown⟩:=hcrow0 i c hc
      exact ⟨hcode,hown⟩)
     obtain ⟨L',hM',hb',hft'⟩:=hfin;have HM':=Lib.hid hM';have Hb':=Lib.hid hb';have Hbl:=Lib.hid T.below;have Hft':=Lib.hid hft';clear hM' hb' hft' T;go_wp2;go_ret;exact ⟨L',(by rw[Hb'.out];rfl),HM'.out,Hbl.out,Hft'.out⟩
end Go.Proofs.YtppihkneeolomaaGreatDoor
