/- mach.New, of what has lengths and rows that are right. -/
import Derived.Test.YtciaficoeajeaaaGreatDoorWFm9
import Derived.Test.YtciaficoeajeaaaGreatDoorWFm7
import Derived.Test.YtciaficoeajeaaaGreatDoorWFm5
import Derived.Test.YtciaficoeajeaaaGreatDoorWFFault
import Derived.LoopTactic
import Derived.OwnWalk
import Derived.Deep.RegionHeld3
import Derived.Deep.QuietTactic
import Derived.BigQuiet
import Derived.Outline
set_option linter.unusedVariables false
set_option linter.unusedSimpArgs false
set_option linter.unusedSectionVars false
set_option maxHeartbeats 16000000
set_option maxRecDepth 100000
namespace Go.Proofs.YtciaficoeajeaaaGreatDoor
open Go.RowKit Qs Qh
theorem thrInfoP:(Tryz.prog.info? 99).map (fun i=>(i.zero,i.size,i.bytes))=some (some (.agg #[.slice none 0 0,.map none,.int .i64 0,.int .i64 0,.int .i64 0,.int .i64 0,.int .i64 0,.int .i64 0,.int .i64 0,.int .i64 0,.int .i64 0]),11,104):=by kernel_rfl
theorem newT_one(p:Value × Nat)(h:p.1.oneCell'=true):∀u∈newT 0 p,u.oneCell'=true:=by
 intro u hu;simp[newT,iv]at hu
 rcases hu with rfl|rfl|rfl|rfl|rfl|rfl|rfl|rfl|rfl|rfl|rfl <;> first|exact h|rfl
def NewBad(w:World)(a:Nat→Addr)(codes:List (List RI))(e:Ending)(w':World):Prop:=
 ∃(i:Nat) (c:List RI),codes[i]?=some c∧(∀(j:Nat) d,j<i→codes[j]?=some d→(chkR d).1=0)∧(chkR c).1≠0∧∃g,e=.returned (.tuple #[.pointer none,.iface 89 (.pointer (some ⟨g,0,none⟩))])∧
  w.heap.size≤g∧w'.heap[g]?=some (.cells #[.int .i64 i,errV a ((chkR c).1.toNat - 1)] 93 (0,0))∧Mod noF w w'
def NewGood(w:World)(n:Nat)(init regs:List (List Int))(codes:List (List RI))(e:Ending)(w':World):Prop:=
 ∃cs X vs mv,cs.map (fun c=>c.map rawI)=codes∧(∀c∈cs,CodeFine c)∧e=.returned (.tuple #[.pointer (some ⟨X.bX,0,none⟩),.nilIface])∧PMach w' X vs mv (startM n init regs cs)∧Mod noF w w'∧(∀x,XFoot X vs mv x→w.heap.size≤x)∧
  ∀(t:Nat) h,(startM n init regs cs).T[t]?=some h→(∀g,(X.cv t).ownBlock=some g→w.heap.size≤g)∧w.heap.size≤X.mb t
theorem pnew_main(n:Nat)(iw rw_ cw:Value)(init regs:List (List Int))(codes:List (List RI))(cv:Nat→Value)(w:World){a:Nat→Addr}(E:ErrsM w a)(hI:RowsAt0 w iw init)(hR:RowsAt0 w rw_ regs)(hC:RCodesAt w cw codes cv)
  (lk:∀l∈codes,l.length≤maxLen) (h1:1≤n) (hn:n≤64) (hc1:1≤codes.length) (hc6:codes.length≤6) (hin:init.length≤n) (hrc:regs.length≤codes.length) (hi:init.all (rightB 4)=true) (hr:regs.all (rightB 8)=true) (hif:RowsFine 4 init) (hrf:RowsFine 8 regs) :
  Calls Tryz.prog 10 #[.agg #[.int .i64 n,iw,rw_],cw] w fun e w'=>NewBad w a codes e w'∨NewGood w n init regs codes e w':=by
 have hwz0:∃wz,wz=w.alloc (.cells #[.int .i64 n,iw,rw_] 34):=⟨_,rfl⟩;obtain ⟨wz,hwz⟩:=hwz0
 have hmz:Mod noF w wz:=by rw[hwz];exact (Mod.refl noF w).alloc _
 have hci1:∀W,Mod noF wz W→Calls Tryz.prog 33 #[iw,.func (.func 34) #[] #[]] W fun e w'=>e=.returned (.bool false)∧W=w':=fun W hW=>
  (containsR1 W iw init (rows_keep0 hI (hmz.trans0 hW)) (by omega)).mono fun e w' h=>⟨by rw[h.1,hi];rfl,h.2⟩
 have hci2:∀W,Mod noF wz W→Calls Tryz.prog 33 #[rw_,.func (.func 36) #[] #[]] W fun e w'=>e=.returned (.bool false)∧W=w':=fun W hW=>
  (containsR2 W rw_ regs (rows_keep0 hR (hmz.trans0 hW)) (by omega)).mono fun e w' h=>⟨by rw[h.1,hr];rfl,h.2⟩
 have Hci1:=Lib.hid hci1;have Hci2:=Lib.hid hci2;have HI:=Lib.hid hI;have HR:=Lib.hid hR;have HC:=Lib.hid hC;have HE:=Lib.hid E;have Hif:=Lib.hid hif;have Hrf:=Lib.hid hrf;have Lk:=Lib.hid lk;clear hci1 hci2 E hi hr hif hrf lk;obtain ⟨ia,ic,rfl,-⟩:=hI;obtain ⟨ra,rc,rfl,-⟩:=hR
 obtain ⟨ca,cc,rfl,-⟩:=hC
 have s0:wz.cell? ⟨w.heap.size,0,none⟩=some (.int .i64 n):=by rw[hwz];simp
 have s1:wz.cell? ⟨w.heap.size,1,none⟩=some (.slice ia init.length ic):=by rw[hwz];simp
 have s2:wz.cell? ⟨w.heap.size,2,none⟩=some (.slice ra regs.length rc):=by rw[hwz];simp
 have sb:w.heap.size<wz.heap.size:=by rw[hwz];simp
 have Hs1:=Lib.hid s1;have Hs2:=Lib.hid s2;have Hmz:=Lib.hid hmz;clear hmz
 go_enter Tryz.func10,Tryz.ntmps10
 go_wp2_with fail
 rw[←hwz];clear hwz;refine (pmNew_ok n codes.length h1 hn hc1 hc6 wz).mono ?_;rintro e w1 ⟨P,rfl,hP,hm1,hF⟩
 have d1:decide ((init.length:Int)≤(n:Int))=true:=by simp;omega
 have d2:decide ((regs.length:Int)≤(codes.length:Int))=true:=by simp;omega
 have q0:=hm1.cell s0 (fun e=>e);have q1:=hm1.cell s1 (fun e=>e);have q2:=hm1.cell s2 (fun e=>e);have qb:=Nat.lt_of_lt_of_le sb hm1.size;have HP:=Lib.hid hP;have HF:=Lib.hid hF;have Hm1:=Lib.hid hm1;clear hP hF hm1 s0 s1 s2
 go_wp2_with fail
 refine (Hci1.out w1 Hm1.out).mono ?_;rintro e w' ⟨rfl,rfl⟩
 go_wp2_with fail
 refine (Hci2.out w1 Hm1.out).mono ?_;rintro e w' ⟨rfl,rfl⟩;go_wp2;have P0:=NewP.start HP.out Hm1.out HF.out;rw[←preC_zero (init:=init)]at P0;have HP0:=Lib.hid P0;clear P0 Hci1 Hci2
 go_loopw [69] (fun i wr=>∃(k:Nat) (ps:List (Value × Nat)) (cs:List (List Instr)) (v:Value),k≤codes.length∧i=.int .i64 k∧cs.map (fun c=>c.map rawI)=codes.take k∧(∀c∈cs,CodeFine c)∧(∀(j:Nat) d,j<k→codes[j]?=some d→(chkR d).1=0)∧NewP wz wr w1.heap.size P (preC n init 0) codes.length v ps cs) (fun i _=>codes.length - (intOf i).toNat)
 case atStart=>exact ⟨0,[],[],_,Nat.zero_le _,rfl,rfl,fun c h=>by simp at h,fun j d h=>absurd h (by omega),HP0.out⟩
 case round=>
  obtain ⟨k,ps,cs,v,hk,rfl,hcs,hfine,hbef,hN⟩:=hrel;obtain ⟨wr0,rfl⟩:∃wr0:World,wr0=wr:=⟨_,rfl⟩
  have hlen:cs.length=k:=by have:=congrArg List.length hcs;simpa[Nat.min_eq_left hk]using this
  have Hcs:=Lib.hid hcs;have Hfine:=Lib.hid hfine;have Hlen:=Lib.hid hlen;have HN:=Lib.hid hN;have Hbef:=Lib.hid hbef;clear hcs hfine hlen hN hbef
  by_cases hlt:k<codes.length
  ·have hd:decide ((k:Int)<(codes.length:Int))=true:=by simp;omega
   have hki:(k:Int)<(codes.length:Int):=by omega
   obtain ⟨l,hl⟩:∃l,codes[k]?=some l:=⟨_,List.getElem?_eq_getElem hlt⟩;have hll:=Lk.out l (List.mem_of_getElem? hl);have hb:Mod noF w wr0:=Hmz.out.trans0 HN.out.base;obtain ⟨ca',cc',e',hx⟩:=HC.out.keep hb;cases e';obtain ⟨cb,coff,rfl,hcb,hcc,hrc',-⟩:=hx k l hl
   have hch:=check_any hrc' (HE.out.keep hb) hll;obtain ⟨⟨va,vc,ev,-⟩,-⟩:=id hrc';rw[ev]at hcc hch hrc';have Hch:=Lib.hid hch;have Hrc:=Lib.hid hrc';have Hl:=Lib.hid hl;have Hb:=Lib.hid hb;clear hx hch hrc' hl hb ev
   go_wp2_with fail
   refine Hch.out.mono ?_;rintro e w2 ⟨u,rfl,hm2,hv⟩;have E2:=(HE.out.keep Hb.out).keep hm2;have Hm2:=Lib.hid hm2;have HE2:=Lib.hid E2;clear hm2 E2
   rcases hv with ⟨h0,rfl⟩|⟨h2,rfl⟩|⟨hp,hp5,hp2,g,rfl,hg1,hg⟩
   ·obtain ⟨c,rfl,hcf⟩:=chk_fine h0;have H0:=Lib.hid h0;have Hcf:=Lib.hid hcf;have N2:=HN.out.keep0 Hm2.out;have hR2:=Hrc.out.keep Hm2.out
    have t1:w2.cell? ⟨w1.heap.size,1,none⟩=some v:=by rw[cell_of_heap N2.top];rfl
    have tf:=free_of_heap N2.top 1;have tb:=lt_of_block N2.top;rw[List.length_map]at *;have hcl:c.length≤2000:=hcf.len
    have hclone:∀W,Mod noF w2 W→Calls Tryz.prog 39 #[.slice va c.length vc] W fun e w'=>∃xa xc,e=.returned (.slice xa c.length xc)∧CodeAt w' (.slice xa c.length xc) c∧(∀g,(Value.slice xa c.length xc).ownBlock=some g→w2.heap.size≤g∧g<w'.heap.size)∧Mod noF w2 W∧Mod noF W w'∧Mod noF w2 w':=fun W hW=>
     (clone_code (hR2.keep hW) hcl).mono fun e w' ⟨v',e1,hr,hm,ho⟩=>by
      obtain ⟨xa,xc,e2,-⟩:=hr.slice;subst e2;exact ⟨xa,xc,e1,hr.code,fun g hg=>⟨Nat.le_trans hW.size (ho g hg),hr.lt hg⟩,hW,hm,hW.trans0 hm⟩
    have hlabs:∀W,Mod noF w2 W→Calls Tryz.prog 40 #[.slice va c.length vc] W fun e w'=>∃lb,e=.returned (.map (some lb))∧LabMap w' lb c∧w2.heap.size≤lb∧Mod noF w2 W∧Mod noF W w'∧Mod noF w2 w':=fun W hW=>
     (labels_any (hR2.keep hW) (by rw[List.length_map];omega)).mono fun e w' ⟨e1,hm,hr⟩=>⟨_,e1,hr,hW.size,hW,hm,hW.trans0 hm⟩
    have hS:∀W,Mod noF w2 W→W.cell? ⟨w1.heap.size,1,none⟩=some v:=fun W hW=>hW.cell t1 (fun e=>e);have HS:=Lib.hid hS;have Hclone:=Lib.hid hclone;have Hlabs:=Lib.hid hlabs;have HN2:=Lib.hid N2;have Hrow:=Lib.hid N2.row;obtain ⟨i0,hti,hz0,hz1,hz2⟩:=info_parts thrInfoP
    have hpl:ps.length≤6:=by have:=HN2.out.len;have:=Hlen.out;omega
    have hbnd:ps.length+1≤maxLen:=by unfold maxLen;omega
    clear hS hclone hlabs N2 hR2;go_wp2
    go_region_law (first|(have g1:=hk5;have g2:=hb5;have g3:Mod noF wc wl:=hb4;refine step_append_mine _ rfl (.tmp 94) (.tmp 100) 85 rfl 99 i0 (.agg #[.slice none 0 0,.map none,.int .i64 0,.int .i64 0,.int .i64 0,.int .i64 0,.int .i64 0,.int .i64 0,.int .i64 0,.int .i64 0,.int .i64 0]) 11 104 Tryz.underlying85 hti hz0 hz1 hz2 rfl (by decide) v ps.length (flat newT 0 ps) rfl (by exact rowMod Hrow.out (Mod.alloc hb5 _) (fun _ _ e=>e)) ⟨wl.heap.size,0,none⟩ 1 1 (newT 0 (.slice xa c.length xc,lb)) rfl rfl (new_cells wl _ _) (newT_one _ rfl) hbnd (by omega) ?_;intro v4 w9 hown9 hgr9 hfr9 _;have hm9:Mod (fun x=>v.ownBlock=some x) wl w9:=appended hgr9 ((Mod.refl noF wl).alloc _);have htop9:=hm9.heap (hb5.heap HN2.out.top (fun e=>e)) (fun e=>(HN2.out.vlo _ e).2.1 rfl);have hc9:w9.cell? ⟨w1.heap.size,1,none⟩=some v:=(cell_of_heap htop9 1).trans rfl;have hf9:=free_of_heap htop9 1;have hb9:=lt_of_block htop9;have HNn:=Lib.hid (HN2.out.next (p:=(.slice xa c.length xc,lb)) (c:=c) hb5 (hk1.frame hb4 (fun _ _ e=>e)) (hb1) (fun g hg=>⟨(hk2 g hg).1,Nat.lt_of_lt_of_le (hk2 g hg).2 hb4.size⟩) hb2 hown9 hm9 (fun g hg=>(hfr9 g hg).imp id (fun h=>by simp at h;omega)));obtain ⟨ya,yb,yc,rfl⟩:=slice_of_own hown9;clear hown9 hgr9 hfr9 hm9 htop9)|(have g1:=hk5;have g2:=hb5;have g3:Mod noF wl wc:=hk4;refine step_append_mine _ rfl (.tmp 94) (.tmp 100) 85 rfl 99 i0 (.agg #[.slice none 0 0,.map none,.int .i64 0,.int .i64 0,.int .i64 0,.int .i64 0,.int .i64 0,.int .i64 0,.int .i64 0,.int .i64 0,.int .i64 0]) 11 104 Tryz.underlying85 hti hz0 hz1 hz2 rfl (by decide) v ps.length (flat newT 0 ps) rfl (by exact rowMod Hrow.out (Mod.alloc hk5 _) (fun _ _ e=>e)) ⟨wc.heap.size,0,none⟩ 1 1 (newT 0 (.slice xa c.length xc,lb)) rfl rfl (new_cells wc _ _) (newT_one _ rfl) hbnd (by omega) ?_;intro v4 w9 hown9 hgr9 hfr9 _;have hm9:Mod (fun x=>v.ownBlock=some x) wc w9:=appended hgr9 ((Mod.refl noF wc).alloc _);have htop9:=hm9.heap (hk5.heap HN2.out.top (fun e=>e)) (fun e=>(HN2.out.vlo _ e).2.1 rfl);have hc9:w9.cell? ⟨w1.heap.size,1,none⟩=some v:=(cell_of_heap htop9 1).trans rfl;have hf9:=free_of_heap htop9 1;have hb9:=lt_of_block htop9;have HNn:=Lib.hid (HN2.out.next (p:=(.slice xa c.length xc,lb)) (c:=c) hk5 (hk1) (hb1.keep hk4 (fun e=>e)) hk2 hb2 hown9 hm9 (fun g hg=>(hfr9 g hg).imp id (fun h=>by simp at h;omega)));obtain ⟨ya,yb,yc,rfl⟩:=slice_of_own hown9;clear hown9 hgr9 hfr9 hm9 htop9)|(go_simp;go_at_call 39;refine (Hclone.out _ (by first|assumption|exact (Mod.refl _ _).drew|exact Mod.refl _ _)).mono ?_;rintro e wc ⟨xa,xc,rfl,hk1,hk2,hk3,hk4,hk5⟩;have tc:=hk5.cell t1 (fun e=>e);have tcb:=Nat.lt_of_lt_of_le tb hk5.size)|(go_simp;go_at_call 40;refine (Hlabs.out _ (by first|assumption|exact (Mod.refl _ _).drew|exact Mod.refl _ _)).mono ?_;rintro e wl ⟨lb,rfl,hb1,hb2,hb3,hb4,hb5⟩;have tl:=hb5.cell t1 (fun e=>e);have tlb:=Nat.lt_of_lt_of_le tb hb5.size))
    all_goals
     go_wp2
     go_roundw
     case rel=>exact ⟨k+1,_,_,_,by omega,by go_num,by rw[List.map_append,Hcs.out,List.take_add_one,Hl.out];rfl,(fun d hd=>(List.mem_append.1 hd).elim (Hfine.out d) (fun h=>by simp at h;exact h ▸ Hcf.out)),(fun j d hj hjd=>by
      by_cases e:j=k
      ·rw[e,Hl.out]at hjd;cases hjd;exact H0.out
      ·exact Hbef.out j d (by omega) hjd),HNn.out⟩
     case measure=>simp[intOf];omega
   ·have hfb:=Hl.out;have het:=HE2.out.et;unfold errV;clear q0
    go_wp2_with fail
    refine (as_miss (a 1) ⟨w2.heap.size,0,none⟩ _ (((Mod.refl noF w2).alloc _).cell het (fun e=>e))).mono ?_;rintro e w3 ⟨rfl,hm3⟩;have hm4:=((Hb.out.trans0 Hm2.out).alloc (.cells #[.pointer none] 89)).trans0 hm3;have Hm4:=Lib.hid hm4;clear hm3 hm4 het hfb;go_wp2;go_ret2
    exact .inl ⟨k,l,Hl.out,Hbef.out,by rw[h2];decide,w3.heap.size,rfl,Hm4.out.size,by rw[h2];exact heap_alloc_new w3 _,Hm4.out.alloc _⟩
   ·have het:=HE2.out.et;have hgl:=lt_of_block hg;clear q0
    go_wp2_with fail
    refine (as_hit ⟨g,0,none⟩ ⟨w2.heap.size,0,none⟩ (.pointer none) _ (((Mod.refl noF w2).alloc _).cell het (fun e=>e)) (by simp) (by simp)).mono ?_;rintro e w3 ⟨rfl,hm3,hf3⟩
    have hm23:Mod noF w2 w3:=((Mod.refl noF w2).alloc (.cells #[.pointer none] 89)).trans hm3 (fun x hx e=>by simp at e;omega);have hg3:=hm23.heap hg (fun e=>e);have g1:w3.cell? ⟨g,1,none⟩=some (errV a ((chkR l).1.toNat - 1)):=(cell_of_heap hg3 1).trans rfl;have gb:=lt_of_block hg3
    unfold errV at g1
    have fb:w2.heap.size<w3.heap.size:=by have:=hm3.size;simp at this;omega
    have Hm4:=Lib.hid ((Hb.out.trans0 Hm2.out).trans0 hm23);clear hm3 hm23 het hg hg3;go_wp2;go_ret2;exact .inl ⟨k,l,Hl.out,Hbef.out,by omega,w3.heap.size,rfl,Hm4.out.size,heap_alloc_new w3 _,Hm4.out.alloc _⟩
  ·have hd:decide ((k:Int)<(codes.length:Int))=false:=by simp;omega
   obtain rfl:k=codes.length:=by omega
   have hcs:=Hcs.out;rw[List.take_length]at hcs;have hcl:cs.length=codes.length:=Hlen.out
   have hpl:ps.length=codes.length:=by rw[HN.out.len,hcl]
   obtain ⟨bL,cap,rfl,hP1,hF1,hC1⟩:=HN.out.mach (by omega);have HcsF:=Lib.hid hcs;obtain ⟨X,hX⟩:∃X,X=newX w1.heap.size P bL cap ps:=⟨_,rfl⟩
   have hXb:X.bX=w1.heap.size:=by rw[hX];rfl
   have hXP:X.P=P:=by rw[hX];rfl
   have hXc:∀(i:Nat) p,ps[i]?=some p→X.cv i=p.1∧X.mb i=p.2:=fun i p hp=>by rw[hX];simp[newX,List.getD,hp]
   rw[←hX]at hP1 hF1
   have hown:∀(t:Nat) c,cs[t]?=some c→(∀g,(X.cv t).ownBlock=some g→w.heap.size≤g)∧w.heap.size≤X.mb t:=fun t c hc=>by
    obtain ⟨p,hp⟩:∃p,ps[t]?=some p:=⟨_,List.getElem?_eq_getElem (by rw[HN.out.len];exact (List.getElem?_eq_some_iff.1 hc).1)⟩;obtain ⟨e1,e2⟩:=hXc t p hp;obtain ⟨k1,k2⟩:=hC1 t p hp;rw[e1,e2];have:=Hmz.out.size;exact ⟨fun g hg=>Nat.le_trans this (k1 g hg),Nat.le_trans this k2⟩
   have Hown:=Lib.hid hown;have HFX:=Lib.hid hF1;obtain ⟨vs0,hvs0⟩:∃vs0,vs0=List.replicate codes.length (Value.slice none 0 0):=⟨_,rfl⟩;obtain ⟨m1,hm1⟩:∃m1:M,m1=⟨preC n init 0,List.replicate codes.length [],cs.map newThr,[],0⟩:=⟨_,rfl⟩;rw[←hvs0,←hm1]at hP1;rw[←hvs0]at HFX;have HP1:=Lib.hid hP1
   have HM1:=Lib.hid hm1;have qb1:Mod noF w1 wr0→True:=fun _=>trivial;have hbz:=HN.out.base;have HE0:=HE.out.keep Hmz.out;have q1z:wz.cell? ⟨w.heap.size,1,none⟩=some (.slice ia init.length ic):=Hs1.out;have q2z:wz.cell? ⟨w.heap.size,2,none⟩=some (.slice ra regs.length rc):=Hs2.out
   have k1:=hbz.cell q1z (fun e=>e);have kb:=Nat.lt_of_lt_of_le sb hbz.size;have hbase:∀w' m' vs' mv',XUp wr0 X vs0 (.slice none 0 0) m1 w' m' vs' mv'→Mod noF wz w':=fun w' m' vs' mv' U=>hbz.trans U.mod (fun x hx e=>by have:=HFX.out x e;omega);have Hbase:=Lib.hid hbase;have HEz:=Lib.hid HE0
   have Hq2:=Lib.hid q2z;clear hX hXc hP1 hF1 hC1 hcs hown hvs0 hm1 qb1 hbz HE0 q1z q2z hbase q0 q1 q2 HP HF HP0 HN;go_wp2
   go_loopw [108] (fun i wr=>∃k:Nat,k≤init.length∧i=.int .i64 k∧XUp wr0 X vs0 (.slice none 0 0) m1 wr {m1 with cells:=preC n init k} vs0 (.slice none 0 0)) (fun i _=>init.length - (intOf i).toNat)
   case atStart=>exact ⟨0,Nat.zero_le _,rfl,by have:=XUp.quiet HP1.out (Mod.refl noF wr0);rw[show ({m1 with cells:=preC n init 0}:M)=m1 from by rw[HM1.out]];exact this⟩
   case round=>
    obtain ⟨k,hk,rfl,hU⟩:=hrel;obtain ⟨wo,rfl⟩:∃wo:World,wo=wr:=⟨_,rfl⟩;have hbo:=Hbase.out _ _ _ _ hU;have HU:=Lib.hid hU;have Hbo:=Lib.hid hbo;clear hU hbo
    have hwl:({m1 with cells:=preC n init k}:M).waits.length=codes.length:=by rw[HM1.out];simp
    by_cases hlt:k<init.length
    ·have hd:decide ((k:Int)<(init.length:Int))=true:=by simp;omega
     have hki:(k:Int)<(init.length:Int):=by omega
     obtain ⟨l,hl⟩:∃l,init[k]?=some l:=⟨_,List.getElem?_eq_getElem hlt⟩;obtain ⟨ia',ic',e',hx⟩:=HI.out;cases e';obtain ⟨ib,ioff,u,rfl,hib0,hu0,hints,-⟩:=hx k l hl;have hmo:=Hmz.out.trans0 Hbo.out;have hib:=Nat.lt_of_lt_of_le hib0 hmo.size;have hu:=hmo.cell hu0 (fun e=>e)
     have hl4:=(Hif.out l (List.mem_of_getElem? hl)).1;have hlw:=(Hif.out l (List.mem_of_getElem? hl)).2
     have hal:Calls Tryz.prog 41 #[.pointer (some ⟨P.bM,0,none⟩),.int .i64 0] wo fun e w'=>e=.returned (.tuple #[.agg #[.int .i64 k,.int .i64 0],.nilIface])∧XUp wr0 X vs0 (.slice none 0 0) m1 w' {m1 with cells:=initC n init k []} vs0 (.slice none 0 0):=by
      have:=pmAlloc_ok (t:=0) HU.out.rep.mem (HEz.out.keep Hbo.out).four (by rw[preC_len];exact hn) (preC_ok Hif.out).1 (by rw[hwl];omega);rw[hXP]at this;refine this.mono ?_;rintro e w' (⟨i,c,ha,hc,rfl,hup⟩|⟨ha,-⟩)
      ·have ha2:=preC_alloc (init:=init) (show k<n by omega);have ha':allocAt (preC n init k) 0=some (i,c.times):=ha;rw[ha2]at ha';simp only[Option.some.injEq,Prod.mk.injEq]at ha';obtain ⟨rfl,h0⟩:=ha';have hc':(preC n init k)[k]?=some c:=hc;rw[preC_get (by omega)]at hc';cases hc';refine ⟨rfl,?_⟩
       rw[←hXP]at hup;have:=HU.out.trans (HU.out.rep.mem_up hup);exact this
      ·have ha':allocAt (preC n init k) 0=none:=ha;rw[preC_alloc (by omega)]at ha';cases ha'
     have Hal:=Lib.hid hal;have Hl:=Lib.hid hl;have Hlw:=Lib.hid hlw;have HIu:=Lib.hid hints;obtain ⟨ua,uc,rfl,hum,-⟩:=id hints.at_;clear hal hl hlw hx hints hmo hu0 hib0
     go_wp2_with fail
     refine Hal.out.mono ?_;rintro e w5 ⟨rfl,hU5⟩;have hm5:=(Hbase.out _ _ _ _ hU5);obtain ⟨wb,hwb⟩:∃wb,wb=w5.alloc (.cells #[.int .i64 k,.int .i64 0] 101):=⟨_,rfl⟩
     have hU6:XUp wr0 X vs0 (.slice none 0 0) m1 wb {m1 with cells:=initC n init k []} vs0 (.slice none 0 0):=hU5.then0 (by rw[hwb];exact (Mod.refl noF w5).alloc _)
     have hbx:wb.heap[w5.heap.size]?=some (.cells #[.int .i64 k,.int .i64 0] 101 (0,0)):=by rw[hwb];exact heap_alloc_new _ _
     have hne:w5.heap.size≠P.gA:=fun e=>by have:=hU5.rep.mem.lt (x:=X.P.gA) (.inr (.inr (.inl rfl)));rw[hXP]at this;omega
     have HU6:=Lib.hid hU6;have Hbx:=Lib.hid hbx;have Hwb:=Lib.hid hwb;clear hU5 hm5 hU6 hbx hwb Hal;go_wp2;rw[←Hwb.out];clear Hwb
     go_loopw [119] (fun i wr=>∃j:Nat,j≤l.length∧i=.int .i64 j∧XUp wr0 X vs0 (.slice none 0 0) m1 wr {m1 with cells:=initC n init k (l.take j)} vs0 (.slice none 0 0)∧wr.heap[w5.heap.size]?=some (.cells #[.int .i64 k,.int .i64 0] 101 (0,0))) (fun i _=>l.length - (intOf i).toNat)
     case atStart=>exact ⟨0,Nat.zero_le _,rfl,HU6.out,Hbx.out⟩
     case round=>
      obtain ⟨j,hj,rfl,hU7,hb7⟩:=hrel;obtain ⟨wp,rfl⟩:∃wp:World,wp=wr:=⟨_,rfl⟩
      by_cases hlt2:j<l.length
      ·have hd2:decide ((j:Int)<(l.length:Int))=true:=by simp;omega
       have hji:(j:Int)<(l.length:Int):=by omega
       obtain ⟨x,hx⟩:∃x,l[j]?=some x:=⟨_,List.getElem?_eq_getElem hlt2⟩;have hxw:=Hlw.out x (List.mem_of_getElem? hx);obtain ⟨c1,c2⟩:=initC_store (init:=init) (show k<n by omega) hl4 hx hxw;have hb7z:=Hbase.out _ _ _ _ hU7;have hm7:=Hmz.out.trans0 hb7z;obtain ⟨_,_,e2,-,hxi⟩:=(HIu.out.frame0 hm7).at_
       cases e2;obtain ⟨xb,xoff,rfl,hxb,hxc⟩:=hxi j x hx;have hp:=hU7.rep.mem.ptr;have hpb:=hU7.rep.mem.lt (x:=X.P.bM) (.inl rfl);have hn1:=hU7.rep.mem.n1;rw[hXP]at hp hpb hn1;have y0:wp.cell? ⟨w5.heap.size,0,none⟩=some (.int .i64 k):=(cell_of_heap hb7 0).trans rfl
       have y1:wp.cell? ⟨w5.heap.size,1,none⟩=some (.int .i64 0):=(cell_of_heap hb7 1).trans rfl;have yb:=lt_of_block hb7
       have hS:∀W,(∃W0,Mod noF wp W0∧Mod (fun x=>x=P.gA) W0 W)→(W.cell? ⟨P.bM,0,none⟩=some (.pointer (some ⟨P.bA,0,none⟩))∧W.cell? ⟨w5.heap.size,0,none⟩=some (.int .i64 k)∧W.cell? ⟨w5.heap.size,1,none⟩=some (.int .i64 0)):=fun W ⟨W0,h0,h1⟩=>
        ⟨h1.cell (h0.cell hp (fun e=>e)) hn1.2.1,h1.cell (h0.cell y0 (fun e=>e)) hne,h1.cell (h0.cell y1 (fun e=>e)) hne⟩
       have hst:∀W,Mod noF wp W→Calls Tryz.prog 42 #[.pointer (some ⟨P.bA,0,none⟩),.agg #[.int .i64 k,.int .i64 0],.int .i64 j,.int .i64 x] W fun e w'=>e=.returned .nilIface∧XUp wr0 X vs0 (.slice none 0 0) m1 w' {m1 with cells:=initC n init k (l.take (j+1))} vs0 (.slice none 0 0)∧w'.heap[w5.heap.size]?=some (.cells #[.int .i64 k,.int .i64 0] 101 (0,0))∧(∃W0,Mod noF wp W0∧Mod (fun x=>x=P.gA) W0 w'):=fun W hW=>by
        have P7:=hU7.then0 hW
        have hlen4:(l.take j).length≤4:=by rw[List.length_take];omega
        have hok:=initC_ok (n:=n) (k:=k) Hif.out hlen4;have:=astore_any P7.rep.mem.arena (HEz.out.keep (hb7z.trans0 hW)).four (by rw[initC_len];exact hn) hok.1 hok.2 k 0 j x;rw[hXP]at this;refine this.mono ?_;rintro e w' ⟨rfl,hM,hA⟩
        have hA':AAt w' P.bA P.gA (initC n init k (l.take (j+1))):=by
         have:=hA;simp only[c1,if_true,Int.toNat_natCast,c2]at this;exact this
        have hM':Mod (fun x=>x=X.P.gA) W w':=by rw[hXP];exact hM
        have hA2:AAt w' X.P.bA X.P.gA (initC n init k (l.take (j+1))):=by rw[hXP];exact hA'
        have hup:=P7.trans (P7.rep.mem_up (P7.rep.mem.cells hM' hA2));exact ⟨by rw[c1];rfl,hup,hM.heap (hW.heap hb7 (fun e=>e)) hne,W,hW,hM⟩
       have hst0:=hS wp ⟨wp,Mod.refl _ _,Mod.refl _ _⟩;have HS:=Lib.hid hS;have Hst:=Lib.hid hst;clear hS hst hU7 hb7 hb7z hm7 hxi c1 c2 hn1 hxw hx;go_wp2
       go_region_held3 (fun W=>(W.cell? ⟨P.bM,0,none⟩=some (.pointer (some ⟨P.bA,0,none⟩))∧W.cell? ⟨w5.heap.size,0,none⟩=some (.int .i64 k)∧W.cell? ⟨w5.heap.size,1,none⟩=some (.int .i64 0))) ((refine HS.out _ ?_;first|assumption|exact ⟨_,(Mod.refl _ _).drew,Mod.refl _ _⟩|exact ⟨_,Mod.refl _ _,Mod.refl _ _⟩)) (first|(go_at_call 42;refine (Hst.out _ (by first|exact (Mod.refl _ _).drew|exact Mod.refl _ _)).mono ?_;rintro e w9 ⟨rfl,hU9,hb9,hM9⟩))
       have HU9:=Lib.hid hU9;have Hb9:=Lib.hid hb9;clear hU9 hb9 hM9;go_wp2
       go_roundw
       case rel=>exact ⟨j+1,by omega,by go_num,HU9.out,Hb9.out⟩
       case measure=>simp[intOf];omega
      ·have hd2:decide ((j:Int)<(l.length:Int))=false:=by simp;omega
       obtain rfl:j=l.length:=by omega
       rw[List.take_length,initC_done (by omega) Hl.out]at hU7;have HU8:=Lib.hid hU7;clear hU7 hb7;go_wp2
       go_roundw
       case rel=>exact ⟨k+1,by omega,by go_num,HU8.out⟩
       case measure=>simp[intOf];omega
    ·have hd:decide ((k:Int)<(init.length:Int))=false:=by simp;omega
     obtain rfl:k=init.length:=by omega
     have k2:=Hbo.out.cell Hq2.out (fun e=>e);have kb2:=Nat.lt_of_lt_of_le sb Hbo.out.size
     have hT0:m1.T=regT regs 0 cs:=by rw[HM1.out,regT_zero]
     have HT0:=Lib.hid hT0;clear hT0;go_wp2
     go_loopw [137] (fun i wr=>∃k:Nat,k≤regs.length∧i=.int .i64 k∧XUp wr0 X vs0 (.slice none 0 0) m1 wr {m1 with cells:=preC n init init.length,T:=regT regs k cs} vs0 (.slice none 0 0)) (fun i _=>regs.length - (intOf i).toNat)
     case atStart=>exact ⟨0,Nat.zero_le _,rfl,by rw[←HT0.out];exact HU.out⟩
     case round=>
      obtain ⟨k,hk,rfl,hU⟩:=hrel;obtain ⟨wq,rfl⟩:∃wq:World,wq=wr:=⟨_,rfl⟩;have hbq:=Hmz.out.trans0 (Hbase.out _ _ _ _ hU)
      by_cases hlt:k<regs.length
      ·have hd:decide ((k:Int)<(regs.length:Int))=true:=by simp;omega
       have hki:(k:Int)<(regs.length:Int):=by omega
       have hkc:(k:Int)<(codes.length:Int):=by omega
       obtain ⟨l,hl⟩:∃l,regs[k]?=some l:=⟨_,List.getElem?_eq_getElem hlt⟩;obtain ⟨c,hc⟩:∃c,cs[k]?=some c:=⟨_,List.getElem?_eq_getElem (by omega)⟩;have hl8:=(Hrf.out l (List.mem_of_getElem? hl)).1;obtain ⟨ra',rc',e',hx⟩:=HR.out;cases e';obtain ⟨ib,ioff,u,rfl,hib0,hu0,hints0,-⟩:=hx k l hl
       have hib:=Nat.lt_of_lt_of_le hib0 hbq.size;have hu:=hbq.cell hu0 (fun e=>e);have hints:=hints0.frame0 hbq;obtain ⟨sp,uc,rfl,hsrc⟩:=hints.src;obtain ⟨-,t1,-,-,-,t5⟩:=hU.rep.top_at;obtain ⟨junk,hj⟩:=hU.rep.thr
       have hTl:(regT regs k cs).length=codes.length:=by rw[regT_len,hcl]
       have hTk:(regT regs k cs)[k]?=some ⟨c,zero8,0⟩:=by rw[regT_get hc,if_neg (by omega)]
       have t1':wq.cell? ⟨w1.heap.size,1,none⟩=some (.slice (some ⟨X.bL,0,none⟩) codes.length X.cap):=by rw[←hXb,←hTl];exact t1
       have hj':wq.heap[X.bL]?=some (.cells (flat (tVals X) 0 (regT regs k cs)++junk).toArray 99 (0,0)):=hj
       have hfit:k*11+2+(l.map (Value.int .i64)).length≤(flat (tVals X) 0 (regT regs k cs)++junk).length:=by
        rw[List.length_append,flat_length (tVals X) 11 (tVals_len X),hTl,List.length_map];omega
       rw[hXb]at t5;have HU1:=Lib.hid hU;have Hj:=Lib.hid hj';have Hsrc:=Lib.hid hsrc;have HTk:=Lib.hid hTk;have Hc:=Lib.hid hc;have Hl:=Lib.hid hl;have Hfit:=Lib.hid hfit;have hLb:=lt_of_block hj';clear hU hj hj' hsrc hTk hc hl hx hints hints0 hu0 hib0 t1 hbq hfit
       obtain ⟨w6,hcp,hg6,hM6⟩:=copy_run (P:=Tryz.prog) wq 26 26 3 3 Tryz.underlying26 intSize sp 8 8 l.length uc X.bL (k*11+2) (flat (tVals X) 0 (regT regs k cs)++junk) 99 Hj.out (l.map (Value.int .i64)) (by rw[List.length_map];exact (Nat.min_eq_left hl8).symm) Hsrc.out Hfit.out (ints_one l)
       have HG6:=Lib.hid hg6;have HM6:=Lib.hid hM6;clear hg6 hM6;go_wp2
       go_roundw
       case rel=>
        refine ⟨k+1,by omega,by go_num,?_⟩;have hs:=HU1.out.trans (HU1.out.rep.setRegs HTk.out hl8 HM6.out HG6.out);have e:=regT_succ Hc.out Hl.out
        have hs2:XUp wr0 X vs0 (.slice none 0 0) m1 w6 {m1 with cells:=preC n init init.length,T:=(regT regs k cs).set k ⟨c,pad 8 l,0⟩} vs0 (.slice none 0 0):=hs;rw[e]at hs2;exact hs2
       case measure=>simp[intOf];omega
      ·have hd:decide ((k:Int)<(regs.length:Int))=false:=by simp;omega
       obtain rfl:k=regs.length:=by omega
       have hfin:({m1 with cells:=preC n init init.length,T:=regT regs regs.length cs}:M)=startM n init regs cs:=by
        rw[HM1.out,regT_done,←hcl];rfl
       rw[hfin]at hU;have HU1:=Lib.hid hU;have Hbq:=Lib.hid hbq;clear hU hbq hfin;go_wp2;go_ret2;refine .inr ⟨cs,X,vs0,_,HcsF.out,Hfine.out,by rw[hXb];rfl,HU1.out.rep,Hbq.out,fun x hx=>?_,fun t h hh=>?_⟩
       ·rcases HU1.out.foot x hx with e|e
        ·exact Nat.le_trans Hmz.out.size (HFX.out x e)
        ·exact Nat.le_trans (by have:=kb;omega) e
       ·obtain ⟨c,hc,-⟩:∃c,cs[t]?=some c∧True:=by
         have hlt:=(List.getElem?_eq_some_iff.1 hh).1
         have:t<cs.length:=by simpa[startM]using hlt
         exact ⟨_,List.getElem?_eq_getElem this,trivial⟩
        exact Hown.out t c hc
end Go.Proofs.YtciaficoeajeaaaGreatDoor
