/- Texts that belong together, joined. -/
import Derived.Test.YtppihkneeolomaaGreatDoorCSm10
import Derived.Test.YtppihkneeolomaaGreatDoorCSSkinds2
import Derived.Test.YtppihkneeolomaaGreatDoorCSm8
import Derived.Test.YtppihkneeolomaaGreatDoorCSm6
import Derived.Test.YtppihkneeolomaaGreatDoorCSm3
import Derived.ChangeArms
import Derived.Test.YtppihkneeolomaaGreatDoorCSm9
import Derived.Test.YtppihkneeolomaaGreatDoorCSNewWalk
set_option linter.unusedVariables false
set_option linter.unusedSimpArgs false
set_option linter.unusedSectionVars false
set_option maxHeartbeats 64000000
set_option maxRecDepth 100000
namespace Go.Proofs.YtppihkneeolomaaGreatDoor
section
open Go.RowKit Qs Qh Qc
variable {N f:Nat}{w w':World}{v u:Value}{q:List (List COp)}{a:Nat→Addr}
theorem codeInfoC:(Tryz.prog.info? 71).map (fun i=>(i.zero,i.size,i.bytes))=some (some (.slice none 0 0),1,24):=by kernel_rfl
theorem gReg2_len(n t:Nat):(gReg2 n t).length=8:=rfl
structure CelS(w0:World)(T2 B S:Nat)(rv iv:Value)(rb:Nat→Nat)(regs rows:List (List Int))(w:World):Prop where
 mod:Mod noF w0 w
 base:BaseAt w B iv rv
 init:∃ib,Rws S w.heap.size w iv rows ib
 regs:Rws (B+1) S w rv regs rb
 res:w.heap[T2]?=some (.cells #[.int .i64 0,.slice none 0 0,.slice none 0 0] 32 (0,0))
 o1:w0.heap.size≤T2
 o2:T2<B
 o3:B+1≤S
 o4:S≤w.heap.size
theorem CelS.cell{w0 W:World}{T2 B S:Nat}{rv iv:Value}{rb:Nat→Nat}{regs rows:List (List Int)}(C:CelS w0 T2 B S rv iv rb regs rows w)(hM:Mod noF w W)(h64:rows.length<64)(l:List Int)(r:Nat)(hr:l.length≠0→w.heap.size≤r∧W.heap[r]?=some (.cells (l.map (Value.int .i64)).toArray 3 (0,0))) :
  Calls Tryz.prog 45 #[.pointer (some ⟨B,0,none⟩),rwU l r] W fun e w'=>e=.returned (.int .i64 ((rows.length:Int)+1))∧∃iv',CelS w0 T2 B S rv iv' rb regs (rows++[l]) w':=by
 obtain ⟨ib,R⟩:=C.init
 have hsz:=hM.size
 have ho:=C.o1
 have ho2:=C.o2
 have ho3:=C.o3
 have ho4:=C.o4
 refine (cell_ok0 (lo0:=S) (Nat.le_refl _) (hM.heap C.base (fun e=>e)) (R.keep hM (fun _ _ _ e=>e)) hM.size (by omega) (by omega) h64 (fun h=>⟨by have:=(hr h).1;omega,by have:=(hr h).1;omega,.inl (hr h).1⟩) (fun h=>(hr h).2)).mono ?_
 rintro e w3 ⟨rfl,iv',hB,hR,hm⟩
 have hiv:∀x,iv.ownBlock=some x→S≤x:=fun x hx=>(R.vin x hx).1
 have hs3:=hm.size
 refine ⟨rfl,iv',(C.mod.trans0 hM).trans hm fun x hx e=>?_,hB,hR,(C.regs.keep hM (fun _ _ _ e=>e)).keep hm fun x h1 h2 e=>?_,hm.heap (hM.heap C.res (fun e=>e)) fun e=>?_,ho,ho2,ho3,by omega⟩
 ·have:=C.mod.size
  rcases e with e|e
  ·omega
  ·have:=hiv x e;omega
 ·rcases e with e|e
  ·omega
  ·have:=hiv x e;omega
 ·rcases e with e|e
  ·omega
  ·have:=hiv _ e;omega
theorem cbuild_ok(E:ErrsC w a)(HK:KindsW w)(H:RIn N w v (rawC q))(hN:N≤w.heap.size)(hc0:(cfG (rawC q)).1=0)(h1:1≤q.length)(h6:q.length≤6)(h20:∀l∈q,l.length≤20)(hf1:1≤f)(hf4:f≤4) :
  Calls Tryz.prog 26 #[.int .i64 f,v] w fun e w'=>∃iv rv cv vk,e=.returned (.tuple #[.agg #[.int .i64 64,iv,rv],cv,.nilIface])∧Mod noF w w'∧Qh.RowsAt w' iv (cInit f q.length)∧Qh.RowsAt w' rv (cRegs q.length)∧CodesAt w' cv (cCodes f q) vk:=by
 have hrl:(rawC q).length=q.length:=by simp[rawC]
 have hrow:∀l∈rawC q,l.length≤30:=fun l hl=>by
  obtain ⟨l',hl',rfl⟩:=List.mem_map.1 hl
  have:=h20 l' hl'
  rw[List.length_map];omega
 have hck:=fun w1 (hm:Mod noF w w1)=>cCheck (E.keep hm) (HK.keep hm) (H.keep hm (fun _ _ e=>e)) (by omega) hrow
 have Hck:=Lib.hid hck
 obtain ⟨i0,hti,hz0,hz1,hz2⟩:=info_parts codeInfoC
 obtain ⟨oa,oc,rfl,hx⟩:=H
 rw[hrl]at *
 have hx':∀(k:Nat) l,q[k]?=some l→∃(b:Nat) (off:Nat) (u:Value),oa.map (·.add k)=oa.map (·.add k)∧(rawC q)[k]?=some (l.map cR):=fun k l hl=>⟨0,0,.nilIface,rfl,by unfold rawC;rw[List.getElem?_map,hl];rfl⟩
 have hget:∀(k:Nat) l,q[k]?=some l→(rawC q)[k]?=some (l.map cR):=fun k l hl=>by unfold rawC;rw[List.getElem?_map,hl];rfl
 have Hx:=Lib.hid hx
 have H20:=Lib.hid h20
 have Hget:=Lib.hid hget
 have Hc0:=Lib.hid hc0
 clear hx h20 hx' hget hck E HK hrow hc0 hrl
 go_enter Tryz.func26,Tryz.ntmps26
 go_wp2_with fail
 have hq:=((Mod.refl noF w).alloc (.cells #[.int .i64 0,.slice none 0 0,.slice none 0 0] 32))
 refine (Hck.out _ hq).mono ?_
 rintro e wc ⟨ev,rfl,hEv,hmc⟩
 rw[Hc0.out]at hEv
 obtain rfl:=hEv.nil
 have hres:wc.heap[w.heap.size]?=some (.cells #[.int .i64 0,.slice none 0 0,.slice none 0 0] 32 (0,0)):=hmc.heap (heap_alloc_new w _) (fun e=>e)
 have hmw:=hq.trans0 hmc
 have hszc:w.heap.size+1≤wc.heap.size:=by have:=lt_of_block hres;omega
 have Hmw:=Lib.hid hmw
 have Hres:=Lib.hid hres
 clear hmc hmw hres hEv hq
 go_wp2_with fail
 refine (newBase_ok q.length h6 wc).mono ?_
 rintro e wb ⟨rv,rb,rfl,hmb,hB,R⟩
 have hbs:=hmb.size
 have hb1:=lt_of_block hB
 have Hmb:=Lib.hid hmb
 have HB:=Lib.hid hB
 have HR:=Lib.hid R
 clear hmb hB R
 go_wp2_with fail
 refine (grace_ok hf1 hf4 h1 h6 HB.out HR.out (by omega) (by omega) (by omega)).mono ?_
 rintro e w2 ⟨rfl,iv2,ib2,hB2,R2r,R2,hm2⟩
 have hs2:=hm2.size
 have hm2w:=(Hmw.out.trans0 Hmb.out).trans hm2 (fun x hx e=>by omega)
 have hres2:=hm2.heap (Hmb.out.heap Hres.out (fun e=>e)) (fun e=>by omega)
 have hC2:CelS w w.heap.size wc.heap.size wb.heap.size rv iv2 rb (rowsF (gReg2 q.length) q.length) (rowsF (gOwnC f) q.length++[gHubC f q.length]) w2:=⟨hm2w,hB2,⟨_,R2⟩,R2r,hres2,Nat.le_refl _,by omega,by omega,hs2⟩
 have hl2:(rowsF (gOwnC f) q.length++[gHubC f q.length]).length=q.length+1:=by simp[rowsF_len]
 have HC2:=Lib.hid hC2
 clear hm2w hm2 hB2 R2 R2r hres2 HR HB Hmb Hres Hmw hC2
 generalize hrw:rowsF (gOwnC f) q.length++[gHubC f q.length]=rows0 at *
 go_wp2_with fail
 refine (HC2.out.cell ((Mod.refl noF w2).alloc _) (by omega) [1] w2.heap.size (fun _=>⟨Nat.le_refl _,heap_alloc_new w2 _⟩)).mono ?_
 rintro e w3 ⟨he3,iv3,hC3⟩
 have e3:(rows0.length:Int)+1=(q.length:Int)+2:=by omega
 rw[e3]at he3
 subst he3
 have HC3:=Lib.hid hC3
 clear hC3 HC2
 go_wp2_with fail
 refine (HC3.out.cell (Mod.refl noF w3) (by simp;omega) [] 0 (fun h=>absurd rfl h)).mono ?_
 rintro e w4 ⟨he4,iv4,hC4⟩
 have e4:((rows0++[[1]]).length:Int)+1=(q.length:Int)+3:=by simp;omega
 rw[e4]at he4
 subst he4
 have HC4:=Lib.hid hC4
 clear hC4 HC3
 go_wp2_with fail
 refine (HC4.out.cell (Mod.refl noF w4) (by simp;omega) [] 0 (fun h=>absurd rfl h)).mono ?_
 rintro e w5 ⟨he5,iv5,hC5⟩
 have e5:((rows0++[[1]]++[[]]).length:Int)+1=(q.length:Int)+4:=by simp;omega
 rw[e5]at he5
 subst he5
 have HC5:=Lib.hid hC5
 clear hC5 HC4
 go_wp2_with fail
 refine (HC5.out.cell ((Mod.refl noF w5).alloc _) (by simp;omega) [(q.length:Int)+2,(q.length:Int)+3,(q.length:Int)+4] w5.heap.size (fun _=>⟨Nat.le_refl _,heap_alloc_new w5 _⟩)).mono ?_
 rintro e w6 ⟨he6,iv,hC6⟩
 have e6:((rows0++[[1]]++[[]]++[[]]).length:Int)+1=(q.length:Int)+5:=by simp;omega
 rw[e6]at he6
 subst he6
 rw[←hrw]at hC6
 have HC6:=Lib.hid hC6
 clear hC6 HC5 e3 e4 e5 e6 hl2
 obtain ⟨ib,R6⟩:=HC6.out.init
 have ho:=HC6.out.o1
 have ho2:=HC6.out.o2
 have ho3:=HC6.out.o3
 have ho4:=HC6.out.o4
 have hrel:BldRel w ⟨w.heap.size,wc.heap.size,wc.heap.size+1,wb.heap.size,wb.heap.size,w6.heap.size,w6.heap.size⟩ iv rv rb ib (cCs f q) (cInit f q.length) (rowsF (mixF (gReg3 q.length) (gReg2 q.length) 0) q.length) 0 (.slice none 0 0) (fun _=>.nilIface) w6:=
  ⟨HC6.out.mod,Nat.le_refl _,HC6.out.res,HC6.out.base,by rw[mix_zero];exact HC6.out.regs,R6,Cds.nil _ _ _ _⟩
 obtain ⟨ra,rc,hrv,-⟩:=HC6.out.regs.cell
 rw[rowsF_len]at hrv
 subst hrv
 obtain ⟨p,hp⟩:∃p:Plc,p=⟨w.heap.size,wc.heap.size,wc.heap.size+1,wb.heap.size,wb.heap.size,w6.heap.size,w6.heap.size⟩:=⟨_,rfl⟩
 have hP:p.Ok w:=by subst hp;exact ⟨Nat.le_refl _,by simp only;omega,by simp only;omega,by simp only;omega,Nat.le_refl _,by simp only;omega,Nat.le_refl _⟩
 rw[←hp]at hrel
 have hpB:wc.heap.size=p.B:=by rw[hp]
 have hpT:w.heap.size=p.T2:=by rw[hp]
 have HP:=Lib.hid hP
 have Hrel:=Lib.hid hrel
 clear hrel hP hp R6 HC6 Hck
 go_wp2
 go_loopw [11,45] (fun c i wr=>∃(k:Nat) (vk:Nat→Value),k≤q.length∧i=.int .i64 k∧BldRel w p iv (.slice ra q.length rc) rb ib (cCs f q) (cInit f q.length) (rowsF (mixF (gReg3 q.length) (gReg2 q.length) k) q.length) k c vk wr) (fun _ i _=>q.length - (intOf i).toNat)
 case atStart=>exact ⟨0,_,Nat.zero_le _,rfl,Hrel.out⟩
 case round=>
  generalize wr=wo at *
  obtain ⟨k,vk,hk,rfl,hR⟩:=hrel
  obtain ⟨ra',rc',hrv,hrx⟩:=hR.regs.cell
  rw[rowsF_len]at hrv
  cases hrv
  obtain ⟨ca,cb,cc,rfl⟩:=slice_of_own hR.cds.own
  by_cases hlt:k<q.length
  ·have hd:decide ((k:Int)<(q.length:Int))=true:=by simp;omega
   have hki:(k:Int)<(q.length:Int):=by omega
   obtain ⟨l,hl⟩:∃l,q[k]?=some l:=⟨_,List.getElem?_eq_getElem hlt⟩
   obtain ⟨b,off,u,rfl,hb,hc,hrow⟩:=Hx.out k _ (Hget.out k l hl)
   have hc2:=hR.mod.cell hc (fun e=>e)
   have hlm:(l.map cR).length=l.length:=List.length_map _
   obtain ⟨ua,uc,rfl,hxx⟩:=hrow.keep hR.mod (fun _ _ e=>e)
   have hxw:∀wx,Mod noF w wx→RRow N wx (.slice ua (l.map cR).length uc) (l.map cR):=fun wx h=>hrow.keep h (fun _ _ e=>e)
   obtain ⟨gb,rfl,hgb,hrk⟩:=hrx k _ (mix_get hlt)
   obtain ⟨hR1,hrow8,hlo⟩:=hR.store (x:=(q.length:Int)+5) (j:=5) HP.out (mix_get hlt) (by rw[gReg2_len];omega)
   rw[gReg_step,mix_set hlt]at hR1
   have b2:wo.cell? ⟨p.B,2,none⟩=some (.slice (some ⟨gb,0,none⟩) q.length rc):=by rw[cell_of_heap hR.base];rfl
   have b3:wo.cell? ⟨gb,k,none⟩=some (.slice (some ⟨rb k,0,none⟩) 8 8):=hrk
   have b4:wo.cell? ⟨rb k,5,none⟩=some (.int .i64 0):=by rw[cell_of_heap hrow8];rfl
   have b5:=free_of_heap hrow8 5
   have h20l:=H20.out l (List.mem_of_getElem? hl)
   have hsz1:(wo.setCell ⟨rb k,5,none⟩ (.int .i64 ((q.length:Int)+5))).heap.size=wo.heap.size:=by simp[World.setCell]
   rw[hlm]at hc2
   have HR:=Lib.hid hR
   have HR1:=Lib.hid hR1
   have Hxw:=Lib.hid hxw
   have Hl:=Lib.hid hl
   have Hsz1:=Lib.hid hsz1
   clear hR hR1 hxw hl hxx hrow hc hrk hrow8 hrx hsz1
   go_wp2
   go_name_world wm hwm
   have hM0:MkA wo.heap.size False (f:Nat) (k:Nat) 1 wm wo.heap.size (.slice none 0 0) [] 0:=by
    have hh:wm.heap[wo.heap.size]?=some (.cells #[.slice none 0 0,.int .i64 f,.int .i64 k,.int .i64 1,.int .i64 0] 101 (0,0)):=by
     rw[←hwm,←Hsz1.out];exact heap_alloc_new _ _
    exact ⟨⟨⟨by rw[cell_of_heap hh];rfl,free_of_heap hh 0,InsRow.nil _ _,(fun g h=>by cases h),lt_of_block hh⟩,by rw[cell_of_heap hh];rfl,free_of_heap hh 4⟩,by rw[cell_of_heap hh];rfl,by rw[cell_of_heap hh];rfl,by rw[cell_of_heap hh];rfl,Nat.le_refl _,(fun g h=>by cases h),Nat.le_of_lt (lt_of_block hh),fun h=>h.elim⟩
   have hq0:Mod noF (wo.setCell ⟨rb k,5,none⟩ (.int .i64 ((q.length:Int)+5))) wm:=by rw[←hwm];exact (Mod.refl noF _).alloc _
   have hFR:FreshH wo.heap.size False (f:Nat) (k:Nat) 1 98:=freshS (fun h=>h.elim)
   have HFR:=Lib.hid hFR
   have HM0:=Lib.hid hM0
   have Hq0:=Lib.hid hq0
   clear hM0 hq0 hwm hFR
   go_loopw [66] (fun i wr=>∃(j:Nat) (v:Value),j≤l.length∧i=.int .i64 j∧MkA wo.heap.size False (f:Nat) (k:Nat) 1 wr wo.heap.size v (copsCode f k 0 (l.take j)) (clabs (l.take j))∧Mod noF (wo.setCell ⟨rb k,5,none⟩ (.int .i64 ((q.length:Int)+5))) wr) (fun i _=>l.length - (intOf i).toNat)
   case atStart=>exact ⟨0,.slice none 0 0,Nat.zero_le _,rfl,HM0.out,Hq0.out⟩
   case round=>
    obtain ⟨j,v,hj,rfl,hMk,hmq⟩:=hrel
    by_cases hlj:j<l.length
    ·have hd2:decide ((j:Int)<(l.length:Int))=true:=by simp;omega
     have hji:(j:Int)<(l.length:Int):=by omega
     obtain ⟨x,hxl⟩:∃x,l[j]?=some x:=⟨_,List.getElem?_eq_getElem hlj⟩
     obtain ⟨ua',uc',e',hxx⟩:=Hxw.out wr (HR1.out.mod.trans0 hmq)
     cases e'
     obtain ⟨ub,uoff,rfl,hub,h0,h1⟩:=hxx j (cR x) (by rw[List.getElem?_map,hxl];rfl)
     have hlen:=copsCode_len hf4 k (l.take j) 0
     have hlab:=clabs_le (l.take j)
     rw[List.length_take]at hlen hlab
     have htk:l.take (j+1)=l.take j++[x]:=by rw[List.take_add_one,hxl];rfl
     have hsn:=copsCode_snoc f k x (l.take j) 0
     have hsl:=clabs_snoc x (l.take j)
     rw[←htk,Nat.zero_add]at hsn
     rw[←htk]at hsl
     have hcal:=cop_any x HFR.out (fun h=>h.elim) hf1 hf4 (by omega) (hMk.quiet ((Mod.refl noF wr).alloc (.cells #[.string (cK x),.int .i64 (cN x)] 88))) (by omega) (by omega) (by omega)
     have Hcal:=Lib.hid hcal
     have HMk:=Lib.hid hMk
     have Hmq:=Lib.hid hmq
     have Hsn:=Lib.hid hsn
     have Hsl:=Lib.hid hsl
     have h0':wr.cell? ⟨ub,uoff+j*2,none⟩=some (.string (cK x)):=h0
     have h1':wr.cell? ⟨ub,uoff+j*2+1,none⟩=some (.int .i64 (cN x)):=h1
     clear hMk hmq hxl hxx htk hsn hsl hlen hlab hcal h0 h1
     generalize hxk:cK x=xk at *
     generalize hxn:cN x=xn at *
     go_wp2_with fail
     refine Hcal.out.mono ?_
     rintro e wz ⟨rfl,v',hMz,hSz⟩
     have HMz:=Lib.hid hMz
     have HSz:=Lib.hid hSz
     clear hMz hSz Hcal
     go_wp2
     go_roundw
     case rel=>
      refine ⟨j+1,v',by omega,by go_num,by rw[Hsn.out,Hsl.out];exact HMz.out,((Hmq.out.alloc _).trans HSz.out.mod fun x hx e=>?_)⟩
      have h9:=Hsz1.out
      rcases e with e|e
      ·omega
      ·have:=HMk.out.lv x e;omega
     case measure=>simp[intOf];omega
    ·have hd2:decide ((j:Int)<(l.length:Int))=false:=by simp;omega
     obtain rfl:j=l.length:=by omega
     rw[List.take_length]at hMk
     have hlen:=copsCode_len hf4 k l 0
     have hlab:=clabs_le l
     have hcal:=part3_ok HFR.out (fun h=>h.elim) hf1 hf4 hMk (by omega) (by omega) (by omega)
     have Hcal:=Lib.hid hcal
     have HMk:=Lib.hid hMk
     have Hmq:=Lib.hid hmq
     clear hMk hmq hcal
     go_wp2_with fail
     refine Hcal.out.mono ?_
     rintro e w9 ⟨rfl,v9,hM9,hS9⟩
     have hlen9:(copsCode f k 0 l++preC (Qu.labN (clabs l+1)) (gcode f 3)).length≤2000:=by
      have:(preC (Qu.labN (clabs l+1)) (gcode f 3)).length≤70:=part_len2 hf4 (show 3<5 by decide) (clabs l)
      rw[List.length_append];omega
     have hm9:Mod noF (wo.setCell ⟨rb k,5,none⟩ (.int .i64 ((q.length:Int)+5))) w9:=Hmq.out.trans hS9.mod fun x hx e=>by
      have h9:=Hsz1.out
      rcases e with e|e
      ·omega
      ·have:=HMk.out.lv x e;omega
     have HM9:=Lib.hid hM9
     have Hm9:=Lib.hid hm9
     clear hM9 hS9 hm9 Hcal
     go_wp2_with fail
     refine (op0_chain (Chain.start HM9.out.m.emit) (by omega) 20 _ rfl).mono ?_
     rintro e wz ⟨rfl,hbz,v',E,G⟩
     have hS:=HR.out.size
     have h9:=Hsz1.out
     have hqz:Mod noF (wo.setCell ⟨rb k,5,none⟩ (.int .i64 ((q.length:Int)+5))) wz:=Hm9.out.trans G.mod fun x hx e=>by
      rcases e with e|e
      ·omega
      ·have:=HM9.out.lv x e;omega
     have hcode:=E.row.code
     have hown:∀g,v'.ownBlock=some g→p.S≤g∧g<wz.heap.size∧(Value.slice ca cb cc).ownBlock≠some g:=fun g hg=>by
      have h10:=HM9.out.hi
      have h11:wo.heap.size≤g:=by
       rcases G.new g hg with e|e
       ·exact HM9.out.lv g e
       ·omega
      refine ⟨by omega,E.row.lt hg,fun e=>?_⟩
      have:=(World.ownsRow.lt HR.out.cds.own _ e).2
      omega
     obtain ⟨xa,xc,rfl,-,-⟩:=E.row.slice
     have e0:=E.cell
     simp only[List.length_append,List.length_singleton]at hcode hown e0
     have hcs:cCs f q k=(copsCode f k 0 l++preC (Qu.labN (clabs l+1)) (gcode f 3))++[⟨20,0,0,0,[]⟩]:=by rw[cCs_get Hl.out];rfl
     rw[←hcs]at hcode
     have HRz:=Lib.hid (HR1.out.quiet hqz)
     have Hcode:=Lib.hid hcode
     have Hown:=Lib.hid hown
     have hszz:p.S≤wz.heap.size:=by have:=HRz.out.size;omega
     have hbnd:k+1≤maxLen:=by unfold maxLen;omega
     clear E G hcode hown hqz hcs hbz
     go_wp2_with (at_builtin;refine wpList_append_mine _ rfl (.tmp 76) (.tmp 84) 33 rfl 71 i0 (.slice none 0 0) 1 24 Tryz.underlying33 hti hz0 hz1 hz2 rfl (by decide) _ k ((List.range k).map vk) rfl (by exact World.ownsRow.alloc HRz.out.cds.own _) ⟨wz.heap.size,0,none⟩ 1 1 [.slice xa _ xc] rfl rfl (by exact new_cells_at _ _ _ (by simp)) (one_row _ rfl) hbnd (by omega) ?_;intro v4 w7 hown hgr hfr _;obtain ⟨ya,yb,yc,rfl⟩:=slice_of_own hown;have Hown4:=Lib.hid hown;have Hgr:=Lib.hid hgr;have Hfr:=Lib.hid hfr;clear hown hgr hfr)
     go_wp2
     go_roundw
     case rel=>
      exact ⟨k+1,_,by omega,by go_num,(HRz.out.quiet ((Mod.refl noF wz).alloc _)).push HP.out (Hcode.out.frame ((Mod.refl noF wz).alloc _) (fun _ _ e=>e)) (fun g hg=>⟨(Hown.out g hg).1,by have:=(Hown.out g hg).2.1;simp;omega,(Hown.out g hg).2.2⟩) Hown4.out Hgr.out Hfr.out⟩
     case measure=>simp[intOf];omega
  ·have hd:decide ((k:Int)<(q.length:Int))=false:=by simp;omega
   obtain rfl:k=q.length:=by omega
   rw[mix_all]at hR
   obtain ⟨ia,ic,hiv,-⟩:=hR.init.cell
   have x0:wo.cell? ⟨p.B,0,none⟩=some (.int .i64 64):=by rw[cell_of_heap hR.base];rfl
   have x1:wo.cell? ⟨p.B,1,none⟩=some iv:=by rw[cell_of_heap hR.base];rfl
   have x2:wo.cell? ⟨p.B,2,none⟩=some (.slice ra q.length rc):=by rw[cell_of_heap hR.base];rfl
   have y0:wo.cell? ⟨p.T2,0,none⟩=some (.int .i64 0):=by rw[cell_of_heap hR.res];rfl
   have y1:wo.cell? ⟨p.T2,1,none⟩=some (.slice none 0 0):=by rw[cell_of_heap hR.res];rfl
   have y2:wo.cell? ⟨p.T2,2,none⟩=some (.slice none 0 0):=by rw[cell_of_heap hR.res];rfl
   have yf:=free_of_heap hR.res
   have yf0:=yf 0
   have yf1:=yf 1
   have yf2:=yf 2
   rw[hiv,cInit_len]at x1
   have HR:=Lib.hid hR
   clear hR hrx yf
   go_wp2
   obtain ⟨wf,hwf⟩:∃wf,wf=(((wo.setCell ⟨p.T2,0,none⟩ (.int .i64 64)).setCell ⟨p.T2,1,none⟩ (.slice ia (q.length+5) ic)).setCell ⟨p.T2,2,none⟩ (.slice ra q.length rc)):=⟨_,rfl⟩
   have hMf:Mod (fun x=>x=p.T2) wo wf:=by rw[hwf];exact (((Mod.refl (fun x=>x=p.T2) wo).setCell (fun _=>rfl) _).setCell (fun _=>rfl) _).setCell (fun _=>rfl) _
   have hh:wf.heap[p.T2]?=some (.cells #[.int .i64 64,.slice ia (q.length+5) ic,.slice ra q.length rc] 32 (0,0)):=by
    rw[hwf,Qh.heap_setCell_same (Qh.heap_setCell_same (Qh.heap_setCell_same HR.out.res 0 _) 1 _) 2 _];rfl
   have z0:wf.cell? ⟨p.T2,0,none⟩=some (.int .i64 64):=by rw[cell_of_heap hh];rfl
   have z1:wf.cell? ⟨p.T2,1,none⟩=some (.slice ia (q.length+5) ic):=by rw[cell_of_heap hh];rfl
   have z2:wf.cell? ⟨p.T2,2,none⟩=some (.slice ra q.length rc):=by rw[cell_of_heap hh];rfl
   rw[←hwf]
   obtain ⟨p1,p2,p3,p4,p5,p6,p7⟩:=HP.out
   refine bodyPost_ret (v:=.tuple #[.agg #[.int .i64 64,.slice ia (q.length+5) ic,.slice ra q.length rc],.slice ca cb cc,.nilIface]) (by simp[results,Tryz.results26,go_sem,z0,z1,z2]) rfl ⟨_,_,_,vk,rfl,?_,?_,?_,?_⟩
   ·exact HR.out.mod.trans hMf fun x hx e=>by omega
   ·have:=HR.out.init.keep hMf (fun x h1 h2 e=>by omega)
    rw[hiv,cInit_len]at this
    exact this.rows (cInit_rows _ _)
   ·have:=HR.out.regs.keep hMf (fun x h1 h2 e=>by omega)
    exact this.rows (fun l hl=>by
     obtain ⟨i,-,rfl⟩:=List.mem_map.1 hl
     simp[gReg3])
   ·exact (HR.out.cds.keep hMf (fun x h1 h2 e=>by omega)).codes
end
section
open Go.RowKit Qs Qh Qc
variable {w w':World}{a:Nat→Addr}
def bq:List (List COp):=[[.enter,.read,.leave]]
theorem bq_fine:(cfG (rawC bq)).1=0:=by decide +kernel
theorem bq_nil:cfG [[]]=(0,-1):=by decide +kernel
theorem built_ok(E:ErrsC w a)(HK:KindsW w):Calls Tryz.prog 23 #[] w fun e w'=>e=.returned (.bool true)∧Mod noF w w':=by
 have HE:=Lib.hid E
 have HKW:=Lib.hid HK
 clear E HK
 go_enter Tryz.func23,Tryz.ntmps23
 go_wp2_with fail
 have hq2:Mod noF w _:=((Mod.refl noF w).alloc (.cells #[.string kEnter,.int .i64 0,.string kRead,.int .i64 0,.string kLeave,.int .i64 0] 88)).alloc (.cells #[.slice (some ⟨w.heap.size,0,none⟩) 3 3] 86)
 have hin:RIn (w.heap.size+2) ((w.alloc (.cells #[.string kEnter,.int .i64 0,.string kRead,.int .i64 0,.string kLeave,.int .i64 0] 88)).alloc (.cells #[.slice (some ⟨w.heap.size,0,none⟩) 3 3] 86)) (.slice (some ⟨w.heap.size+1,0,none⟩) 1 1) (rawC bq):=by
  have g1:=heap_alloc_new (w.alloc (.cells #[.string kEnter,.int .i64 0,.string kRead,.int .i64 0,.string kLeave,.int .i64 0] 88)) (.cells #[.slice (some ⟨w.heap.size,0,none⟩) 3 3] 86)
  have g0:=((Mod.refl noF (w.alloc (.cells #[.string kEnter,.int .i64 0,.string kRead,.int .i64 0,.string kLeave,.int .i64 0] 88))).alloc (.cells #[.slice (some ⟨w.heap.size,0,none⟩) 3 3] 86)).heap (heap_alloc_new w (.cells #[.string kEnter,.int .i64 0,.string kRead,.int .i64 0,.string kLeave,.int .i64 0] 88)) (fun e=>e)
  have hs:(w.alloc (.cells #[.string kEnter,.int .i64 0,.string kRead,.int .i64 0,.string kLeave,.int .i64 0] 88)).heap.size=w.heap.size+1:=by simp
  rw[hs]at g1
  refine ⟨_,1,rfl,fun i l hi=>?_⟩
  match i,hi with
  |0,hi=>
   cases hi
   refine ⟨w.heap.size+1,0,.slice (some ⟨w.heap.size,0,none⟩) 3 3,rfl,by omega,by rw[cell_of_heap g1];rfl,_,3,rfl,fun i x hi=>?_⟩
   match i,hi with
   |0,hi=>cases hi;exact ⟨w.heap.size,0,rfl,by omega,by rw[cell_of_heap g0];rfl,by rw[cell_of_heap g0];rfl⟩
   |1,hi=>cases hi;exact ⟨w.heap.size,0,rfl,by omega,by rw[cell_of_heap g0];rfl,by rw[cell_of_heap g0];rfl⟩
   |2,hi=>cases hi;exact ⟨w.heap.size,0,rfl,by omega,by rw[cell_of_heap g0];rfl,by rw[cell_of_heap g0];rfl⟩
   |i+3,hi=>simp at hi
  |i+1,hi=>simp[rawC,bq]at hi
 refine (cbuild_ok (f:=1) (q:=bq) (HE.out.keep hq2) (HKW.out.keep hq2) hin (by simp) bq_fine (by decide) (by decide) (by decide) (by decide) (by decide)).mono ?_
 rintro e w3 ⟨iv,rv,cv,vk,rfl,hm3,hI,hR,hC⟩
 obtain ⟨ia,ic,rfl,-⟩:=hI
 obtain ⟨ra,rc,rfl,-⟩:=hR
 obtain ⟨ca,cc,rfl,-⟩:=hC
 have Hm3:=Lib.hid (hq2.trans0 hm3)
 rw[cInit_len,cRegs_len,cCodes_len]
 rw[show bq.length=1 from rfl]
 clear hin hm3 hq2
 go_wp2_with fail
 have hq5:Mod noF w3 _:=(((Mod.refl noF w3).alloc (.cells #[.int .i64 64,.slice ia (1+5) ic,.slice ra 1 rc] 32)).alloc (.cells #[] 88)).alloc (.cells #[.slice (some ⟨w3.heap.size+1,0,none⟩) 0 0] 86)
 have hin:RIn (w3.heap.size+3) (((w3.alloc (.cells #[.int .i64 64,.slice ia (1+5) ic,.slice ra 1 rc] 32)).alloc (.cells #[] 88)).alloc (.cells #[.slice (some ⟨w3.heap.size+1,0,none⟩) 0 0] 86)) (.slice (some ⟨w3.heap.size+2,0,none⟩) 1 1) [[]]:=by
  have g1:=heap_alloc_new ((w3.alloc (.cells #[.int .i64 64,.slice ia (1+5) ic,.slice ra 1 rc] 32)).alloc (.cells #[] 88)) (.cells #[.slice (some ⟨w3.heap.size+1,0,none⟩) 0 0] 86)
  have hs:((w3.alloc (.cells #[.int .i64 64,.slice ia (1+5) ic,.slice ra 1 rc] 32)).alloc (.cells #[] 88)).heap.size=w3.heap.size+2:=by simp
  rw[hs]at g1
  refine ⟨_,1,rfl,fun i l hi=>?_⟩
  match i,hi with
  |0,hi=>
   cases hi
   exact ⟨w3.heap.size+2,0,.slice (some ⟨w3.heap.size+1,0,none⟩) 0 0,rfl,by omega,by rw[cell_of_heap g1];rfl,_,0,rfl,fun i x hi=>by simp at hi⟩
  |i+1,hi=>simp at hi
 refine (cCheck ((HE.out.keep Hm3.out).keep hq5) ((HKW.out.keep Hm3.out).keep hq5) hin (by decide) (by decide)).mono ?_
 rintro e w6 ⟨ev,rfl,hEv,hm6⟩
 rw[bq_nil]at hEv
 obtain rfl:=hEv.nil
 have Hm6:=Lib.hid (Hm3.out.trans0 (hq5.trans0 hm6))
 clear hm6 hq5 hEv hin
 go_wp2
 go_ret
 exact ⟨rfl,Hm6.out⟩
end
section
open Go.RowKit Qs Qh
variable {N k S:Nat}{w w1 w':World}{v u cv cv':Value}{ll:List (List ROp)}{l:List ROp}{cs:Nat→List ROp}{vk:Nat→Value}
structure Rls(S:Nat)(w:World)(cv:Value)(cs:Nat→List ROp)(k:Nat)(vk:Nat→Value):Prop where
 own:w.ownsRow 0 86 1 cv k ((List.range k).map vk)
 vin:∀g,cv.ownBlock=some g→S≤g
 at_:∀i,i<k→RRow w.heap.size w (vk i) (cs i)
 bin:∀i g,i<k→(vk i).ownBlock=some g→S≤g∧g<w.heap.size
 ne:∀i g,i<k→(vk i).ownBlock=some g→cv.ownBlock≠some g
theorem Rls.nil(S:Nat)(w:World)(cs:Nat→List ROp)(vk:Nat→Value):Rls S w (.slice none 0 0) cs 0 vk:=
 ⟨World.ownsRow_nil w 0 _ 1,fun g h=>(by cases h),fun i h=>by omega,fun i g h=>by omega,fun i g h=>by omega⟩
theorem Rls.keep(C:Rls S w cv cs k vk){F:Nat→Prop}(hM:Mod F w w1)(hF:∀b,S≤b→b<w.heap.size→¬F b):Rls S w1 cv cs k vk:=by
 refine ⟨⟨C.own.1,?_⟩,C.vin,fun i hi=>((C.at_ i hi).frame hM fun b hb=>hF b (C.bin i b hi hb).1 (C.bin i b hi hb).2).mono hM.size,fun i g hi hg=>⟨(C.bin i g hi hg).1,Nat.lt_of_lt_of_le (C.bin i g hi hg).2 hM.size⟩,C.ne⟩
 rcases C.own.2 with e|⟨g,cap,cur,rfl,h0,hg,r⟩
 ·exact .inl e
 ·exact .inr ⟨g,cap,cur,rfl,h0,hM.heap hg (hF _ (C.vin g rfl) (lt_of_block hg)),r⟩
theorem Rls.push(C:Rls S w cv cs k vk)(hS:S≤w.heap.size)(hc:RRow w.heap.size w u (cs k))(hu:∀g,u.ownBlock=some g→S≤g∧g<w.heap.size∧cv.ownBlock≠some g)
  (hown:w1.ownsRow 0 86 1 cv' (k+1) ((List.range k).map vk++[u])) (hg:w.grownBy w1 cv.ownBlock) (hfr:∀g,cv'.ownBlock=some g→cv.ownBlock=some g∨w.heap.size≤g) :
  Rls S w1 cv' cs (k+1) (fun i=>if i=k then u else vk i):=by
 have hM:Mod (fun x=>cv.ownBlock=some x) w w1:=(Mod.refl (fun x=>cv.ownBlock=some x) w).grown hg fun j hj _=>hj
 refine ⟨?_,fun g h=>?_,fun i hi=>?_,fun i g hi h=>?_,fun i g hi h e=>?_⟩
 ·have:(List.range (k+1)).map (fun i=>if i=k then u else vk i)=(List.range k).map vk++[u]:=by
   rw[List.range_succ,List.map_append]
   congr 1
   ·refine List.map_congr_left fun i hi=>?_
    have:=List.mem_range.1 hi
    rw[if_neg (by omega)]
   ·simp
  rw[this];exact hown
 ·rcases hfr g h with e|e
  ·exact C.vin g e
  ·omega
 ·by_cases e:i=k
  ·subst e
   simp only[if_true]
   exact (hc.frame hM fun b hb e=>(hu b hb).2.2 e).mono hM.size
  ·rw[if_neg e]
   exact ((C.at_ i (by omega)).frame hM fun b hb e'=>C.ne i b (by omega) hb e').mono hM.size
 ·have hs:=hM.size
  by_cases e:i=k
  ·subst e
   simp only[if_true]at h
   have:=hu g h;exact ⟨this.1,by omega⟩
  ·rw[if_neg e]at h
   have:=C.bin i g (by omega) h;exact ⟨this.1,by omega⟩
 ·have hlt:g<w.heap.size:=by
   by_cases e:i=k
   ·subst e
    simp only[if_true]at h
    exact (hu g h).2.1
   ·rw[if_neg e]at h
    exact (C.bin i g (by omega) h).2
  rcases hfr g e with e'|e'
  ·by_cases e2:i=k
   ·subst e2
    simp only[if_true]at h
    exact (hu g h).2.2 e'
   ·rw[if_neg e2]at h
    exact C.ne i g (by omega) h e'
  ·omega
theorem Rls.rin(C:Rls S w cv cs k vk):RIn w.heap.size w cv ((List.range k).map cs):=by
 rcases C.own.2 with ⟨rfl,h0⟩|⟨g,cap,cur,rfl,_,hg,h1,h2,h3,h4⟩
 ·subst h0
  exact ⟨none,0,rfl,fun i l h=>by simp at h⟩
 ·refine ⟨some ⟨g,0,none⟩,cap,by simp,fun i l h=>?_⟩
  have hlt:i<k:=by have:=(List.getElem?_eq_some_iff.1 h).1;simpa using this
  have hl:l=cs i:=by
   rw[List.getElem?_map,List.getElem?_range hlt]at h
   exact (Option.some.inj h).symm
  subst hl
  refine ⟨g,0,vk i,rfl,lt_of_block hg,?_,C.at_ i hlt⟩
  rw[cell_of_heap hg,Nat.zero_add]
  have e:cur[i]?=(cur.toList.take (k*1))[i]?:=by
   rw[List.getElem?_take,if_pos (by omega)];simp
  rw[e,h4,List.getElem?_map,List.getElem?_range hlt];rfl
end
section
open Go.RowKit Qs Qh
theorem opInfoR:(Tryz.prog.info? 88).map (fun i=>(i.zero,i.size,i.bytes))=some (some (.agg #[.string ⟨#[]⟩,.int .i64 0]),2,24):=by kernel_rfl
theorem opsInfoR:(Tryz.prog.info? 86).map (fun i=>(i.zero,i.size,i.bytes))=some (some (.slice none 0 0),1,24):=by kernel_rfl
variable {N k S:Nat}{w w1 w':World}{v u cv cv':Value}{ll:List (List ROp)}{l:List ROp}{cs:Nat→List ROp}{vk:Nat→Value}
def NilOk(w:World)(v:Value):Prop:=∀b off n m (i:Nat) k c,v=.slice (some ⟨b,off,none⟩) n m→i<n→w.cell? ⟨b,off+i,none⟩=some (.slice none k c)→c=0
theorem rV_ones(l:List ROp):∀s,∀u∈flat rV s l,u.oneCell'=true:=by
 induction l with
 |nil=>intro s u h;cases h
 |cons x l ih=>
  intro s u h
  simp only[flat,rV,List.mem_append]at h
  rcases h with h|h
  ·simp at h;rcases h with rfl|rfl <;> rfl
  ·exact ih (s+1) u h
theorem rV_len(l:List ROp)(s:Nat):(flat rV s l).length=l.length*2:=flat_length rV 2 (fun _ _=>rfl) l s
theorem RRow.src{ad:Addr}{n c:Nat}(h:RRow N w (.slice (some ad) n c) l):∀(j:Nat) y,(flat rV 0 l)[j]?=some y→w.cell? (ad.add j)=some y:=by
 obtain ⟨a,c',e,hx⟩:=h
 intro j y hj
 have hlt:=(List.getElem?_eq_some_iff.1 hj).1
 rw[rV_len]at hlt
 obtain ⟨x,hxi⟩:∃x,l[j/2]?=some x:=⟨_,List.getElem?_eq_getElem (by omega)⟩
 obtain ⟨b,off,rfl,hb,h0,h1⟩:=hx (j/2) x hxi
 cases e
 have hgt:=flat_get rV 2 (fun _ _=>rfl) (show j % 2<2 by omega) l 0 (j/2) x hxi []
 rw[List.append_nil,show j/2*2+j % 2=j by omega,hj]at hgt
 have hadd:(⟨b,off,none⟩:Addr).add j=⟨b,off+j,none⟩:=by unfold Addr.add;split <;> simp_all
 rw[hadd]
 rcases (by omega:j % 2=0∨j % 2=1)with e|e
 ·rw[e]at hgt
  have:some y=some (Value.string x.1):=hgt
  rw[this,←h0,show off+j=off+j/2*2 by omega]
 ·rw[e]at hgt
  have:some y=some (Value.int .i64 x.2):=hgt
  rw[this,←h1,show off+j=off+j/2*2+1 by omega]
end
section
open Go.RowKit Qs Qh
variable {N k S:Nat}{w w1 w':World}{v u cv cv':Value}{ll:List (List ROp)}{l:List ROp}{cs:Nat→List ROp}{vk:Nat→Value}
theorem opsOf2_ok(H:RIn N w v ll)(hnil:NilOk w v)(hlen:ll.length≤10)(hrow:∀l∈ll,l.length≤30) :
  Calls Tryz.prog 27 #[v] w fun e w'=>∃x,e=.returned x∧Mod noF w w'∧RIn w'.heap.size w' x ll:=by
 have HH:=Lib.hid H
 obtain ⟨a,c,rfl,-⟩:=H
 have Hrow:=Lib.hid hrow
 have Hnil:=Lib.hid hnil
 clear hrow hnil
 obtain ⟨i0,hti,hz0,hz1,hz2⟩:=info_parts opInfoR
 obtain ⟨j0,htj,hy0,hy1,hy2⟩:=info_parts opsInfoR
 go_enter Tryz.func27,Tryz.ntmps27
 go_wp2
 go_loopw [3,4] (fun x i wr=>∃(k:Nat) (vk:Nat→Value),k≤ll.length∧i=.int .i64 k∧Mod noF w wr∧Rls w.heap.size wr x (fun i=>ll.getD i []) k vk) (fun _ i _=>ll.length - (intOf i).toNat)
 case atStart=>exact ⟨0,fun _=>.nilIface,Nat.zero_le _,rfl,Mod.refl _ _,Rls.nil _ _ _ _⟩
 case round=>
  obtain ⟨k,vk,hk,rfl,hm,hO⟩:=hrel
  obtain ⟨xa,xb,xc,rfl⟩:=slice_of_own hO.own
  have HO:=Lib.hid hO
  have Hm:=Lib.hid hm
  clear hO
  by_cases hlt:k<ll.length
  ·have hd:decide ((k:Int)<(ll.length:Int))=true:=by simp;omega
   have hki:(k:Int)<(ll.length:Int):=by omega
   obtain ⟨l,hl⟩:∃l,ll[k]?=some l:=⟨_,List.getElem?_eq_getElem hlt⟩
   obtain ⟨a',c',e',hx⟩:=HH.out
   cases e'
   obtain ⟨b,off,u,rfl,hb,hc,hr⟩:=hx k l hl
   have hrl:=hr.keep hm (fun _ _ e=>e)
   obtain ⟨ua,uc,rfl,-⟩:=hr
   have hc1:=hm.cell hc (fun e=>e)
   have hl30:=Hrow.out l (List.mem_of_getElem? hl)
   have hls:ll.getD k []=l:=by rw[List.getD_eq_getElem?_getD,hl];rfl
   have hsz:=hm.size
   have hbnd:k+1≤maxLen:=by unfold maxLen;omega
   have hbnd2:0+l.length≤maxLen:=by unfold maxLen;omega
   have Hls:=Lib.hid hls
   have Hrl:=Lib.hid hrl
   have hnl:=Hnil.out b off _ _ k l.length uc rfl hlt
   clear hx hls hrl hm
   cases ua with
   |none=>
    obtain rfl:=hnl hc
    have hl0:l=[]:=by
     obtain ⟨a2,c2,e2,hx2⟩:=Hrl.out
     cases l with
     |nil=>rfl
     |cons y l=>
      obtain ⟨_,_,e3,_⟩:=hx2 0 y rfl
      cases e2;cases e3
    subst hl0
    simp only[List.length_nil]at hc1
    clear hc hnl hl hbnd2 hl30
    go_wp2_with (at_builtin;first|(refine wpList_append_none rfl (.tmp 13) (.tmp 17) 86 rfl 0 88 i0 2 Tryz.underlying86 hti (.slice none 0 0) 0 [] rfl (World.ownsRow_nil _ 0 _ 2) rfl ?_)|(refine wpList_append_mine _ rfl (.tmp 12) (.tmp 19) 22 rfl 86 j0 (.slice none 0 0) 1 24 Tryz.underlying22 htj hy0 hy1 hy2 rfl (by decide) _ k ((List.range k).map vk) rfl (by exact World.ownsRow.alloc HO.out.own _) ⟨wr.heap.size,0,none⟩ 1 1 [.slice none 0 0] rfl rfl (by exact new_cells_at _ _ _ rfl) (one_row _ rfl) hbnd (by omega) ?_;intro v4 w7 hown hgr hfr _;obtain ⟨va,vb,vc,rfl⟩:=slice_of_own hown;have Hown4:=Lib.hid hown;have Hgr:=Lib.hid hgr;have Hfr:=Lib.hid hfr;clear hown hgr hfr))
    go_wp2
    go_roundw
    case rel=>
     refine ⟨k+1,_,by omega,by go_num,((Hm.out.alloc _).trans ((Mod.refl (fun x=>(Value.slice xa xb xc).ownBlock=some x) _).grown Hgr.out fun j hj _=>hj) fun x hx e=>?_),(HO.out.keep ((Mod.refl noF wr).alloc _) fun _ _ _ e=>e).push (u:=.slice none 0 0) (by simp;omega) (by rw[Hls.out];exact ⟨none,0,rfl,fun i x hi=>by simp at hi⟩) (fun g hg=>by cases hg) Hown4.out Hgr.out Hfr.out⟩
     have:=HO.out.vin x e;omega
    case measure=>simp[intOf];omega
   |some ad=>
    clear hc hnl hl
    have hsrc:=Hrl.out.src
    have hone:=rV_ones l 0
    have hlen2:=rV_len l 0
    have Hsrc:=Lib.hid hsrc
    have Hone:=Lib.hid hone
    have Hlen2:=Lib.hid hlen2
    clear hsrc hone hlen2
    go_wp2_with (at_builtin;first|(refine wpList_append_mine _ rfl (.tmp 13) (.tmp 17) 86 rfl 88 i0 (.agg #[.string ⟨#[]⟩,.int .i64 0]) 2 24 Tryz.underlying86 hti hz0 hz1 hz2 rfl (by decide) (.slice none 0 0) 0 [] rfl (World.ownsRow_nil _ 0 _ 2) ad l.length uc (flat rV 0 l) rfl Hlen2.out Hsrc.out Hone.out hbnd2 (by omega) ?_;intro v4 w7 hown hgr hfr _;obtain ⟨ya,yb,yc,rfl⟩:=slice_of_own hown;have Hown4:=Lib.hid hown;have Hgr:=Lib.hid hgr;have Hfr:=Lib.hid hfr;have hm7:Mod noF wr w7:=(Mod.refl noF wr).trans ((Mod.refl (fun x=>(Value.slice none 0 0).ownBlock=some x) wr).grown hgr fun j hj _=>hj) (fun x hx e=>by cases e);have HO4:=Lib.hid (HO.out.keep hm7 fun _ _ _ e=>e);have Hm7:=Lib.hid hm7;clear hown hgr hfr hm7)|(refine wpList_append_mine _ rfl (.tmp 12) (.tmp 19) 22 rfl 86 j0 (.slice none 0 0) 1 24 Tryz.underlying22 htj hy0 hy1 hy2 rfl (by decide) _ k ((List.range k).map vk) rfl (by exact World.ownsRow.alloc HO4.out.own _) ⟨w7.heap.size,0,none⟩ 1 1 [.slice ya yb yc] rfl rfl (by exact new_cells_at _ _ _ rfl) (one_row _ rfl) hbnd (by omega) ?_;intro v5 w8 hown hgr hfr _;obtain ⟨za,zb,zc,rfl⟩:=slice_of_own hown;have Hown5:=Lib.hid hown;have Hgr5:=Lib.hid hgr;have Hfr5:=Lib.hid hfr;clear hown hgr hfr))
    have hs7:=Hm7.out.size
    have hrow7:RRow w7.heap.size w7 (.slice ya yb yc) l:=by
     have h:=Hown4.out
     rw[List.nil_append,Nat.zero_add]at h
     exact rRow_own h
    have Hrow7:=Lib.hid hrow7
    clear hrow7
    go_wp2
    go_roundw
    case rel=>
     refine ⟨k+1,_,by omega,by go_num,(((Hm.out.trans0 Hm7.out).alloc _).trans ((Mod.refl (fun x=>(Value.slice xa xb xc).ownBlock=some x) _).grown Hgr5.out fun j hj _=>hj) fun x hx e=>?_),(HO4.out.keep ((Mod.refl noF w7).alloc _) fun _ _ _ e=>e).push (u:=.slice ya yb yc) (by simp;omega) (by rw[Hls.out];exact (Hrow7.out.frame ((Mod.refl noF w7).alloc _) fun _ _ e=>e).mono (by simp)) (fun g hg=>?_) Hown5.out Hgr5.out Hfr5.out⟩
     ·have:=HO.out.vin x e;omega
     ·have h1:wr.heap.size≤g:=by
       rcases Hfr.out g hg with e|e
       ·cases e
       ·exact e
      have h2:=(World.ownsRow.lt Hown4.out g hg).2
      refine ⟨by omega,by simp;omega,fun e=>?_⟩
      have:=(World.ownsRow.lt HO.out.own g e).2
      omega
    case measure=>simp[intOf];omega
  ·have hd:decide ((k:Int)<(ll.length:Int))=false:=by simp;omega
   obtain rfl:k=ll.length:=by omega
   have hfin:(List.range ll.length).map (fun i=>ll.getD i [])=ll:=by
    refine List.ext_getElem? fun i=>?_
    rw[List.getElem?_map]
    by_cases h:i<ll.length
    ·rw[List.getElem?_range h,List.getElem?_eq_getElem h];simp[h]
    ·rw[List.getElem?_eq_none (by simpa using h),List.getElem?_eq_none (by omega)];rfl
   have hR:=HO.out.rin
   rw[hfin]at hR
   have HR:=Lib.hid hR
   clear hR hfin hm
   go_wp2
   go_ret
   exact ⟨_,rfl,Hm.out,HR.out⟩
end
section
open Go.ChangeShapes Go.WideShapes Go.ChangeAt Go.RowKit Qh
def opVals(x:ROp):List Value:=[.string x.1,.int .i64 x.2]
theorem opLen2{l:List Value}(h:l.length=2):∃c0 c1:Value,l=[c0,c1]:=by
 match l,h with
 |[c0,c1],_=>exact ⟨c0,c1,rfl⟩
theorem Op_read{H:Type}{enc:TypeId × Value→H}{W:World}(n:Nat)(cs:List Value)(y:DataW H × List MemPlace)(h:DataW.trod enc Tryz.prog W 0 (fun _=>true) true n 88 cs=some y):∃x:ROp,cs=opVals x∧True:=by
 obtain ⟨xs,n',rfl,_,hlen,hxl,hf⟩:=DataW.trod_struct Tryz.underlying88 h
 rw[show Tryz.prog.cellsOf 88 = 2 by kernel_rfl]at hlen
 have k1 : Tryz.prog.cellsOf 3 = 1:=by kernel_rfl
 have k9 : Tryz.prog.cellsOf 9 = 1:=by kernel_rfl
 obtain ⟨c0,c1,rfl⟩:=opLen2 hlen
 have h0 := hf 0 ⟨"Kind", 9, 0, false, "", "", 0⟩ rfl
 rw[List.getElem?_eq_getElem (show 0<xs.length by rw[hxl];decide)]at h0
 obtain ⟨s0,e0,_,o0⟩:=DataW.trod_string Tryz.underlying9 h0
 simp only[k9,List.drop_succ_cons,List.drop_zero,List.take_succ_cons,List.take_zero,List.cons.injEq,and_true]at e0
 subst e0
 have h1 := hf 1 ⟨"N", 3, 1, false, "", "", 16⟩ rfl
 rw[List.getElem?_eq_getElem (show 1<xs.length by rw[hxl];decide)]at h1
 obtain ⟨s1,e1,_,o1⟩:=DataW.trod_int Tryz.underlying3 h1
 simp only[k1,List.drop_succ_cons,List.drop_zero,List.take_succ_cons,List.take_zero,List.cons.injEq,and_true]at e1
 subst e1
 exact ⟨⟨s0,s1⟩,rfl,trivial⟩
def OpsOk(W:World)(u:Value):Prop:=∃a l c z,u=.slice a l c∧RowsAt opVals 2 W (.slice a l c) z
theorem Row_read{H:Type}{enc:TypeId × Value→H}{W:World}(n:Nat)(cs:List Value)(y:DataW H × List MemPlace)(h:DataW.trod enc Tryz.prog W 0 (fun _=>true) true n 86 cs=some y):∃u:Value,cs=[u]∧OpsOk W u:=by
 rcases Go.Deep.open_slice Tryz.underlying86 h with ⟨hcs,_⟩|⟨A,l,c,m,n',D,Pl,hcs,_,hl,hm,hmm,_,hel⟩
 ·exact ⟨.slice none 0 0,hcs,none,0,0,[],rfl,none,0,rfl,by simp,by simp,fun _=>rfl,fun i x h=>by simp at h⟩
 ·subst hcs
  obtain ⟨z,hz,_⟩:=rowsAt_of (k:=2) (vals:=opVals) (good:=fun _=>True) (a:=some A) (len:=l) (cap:=c) (by decide) Tryz.underlying86 (by kernel_rfl) Op_read (⟨n,h⟩:DataW.Trod enc Tryz.prog W 0 (fun _=>true) true 86 (.slice (some A) l c) y.1 y.2)
  exact ⟨_,rfl,_,_,_,z,rfl,hz⟩
def IsOps(w:World)(a:Option Addr)(len cap:Nat)(z:List (List ROp)):Prop:=
 RIn w.heap.size w (.slice a len cap) z∧NilOk w (.slice a len cap)∧z.length≤maxLen∧∀l∈z,l.length≤maxLen
theorem isOps_of{H:Type}{enc:TypeId × Value→H}{W:World}{a:Option Addr}{len cap:Nat}{d:DataW H}{p:List MemPlace}(h:DataW.Trod enc Tryz.prog W 0 (fun _=>true) true 22 (.slice a len cap) d p):∃z,IsOps W a len cap z:=by
 obtain ⟨us,⟨a',c',e',hlc,hcm,hn,hx⟩,hg⟩:=rowsAt_of (k:=1) (vals:=fun u:Value=>[u]) (good:=OpsOk W) (by decide) Tryz.underlying22 (by kernel_rfl) Row_read h
 cases e'
 have hch:∀u,∃z:List ROp,u∈us→∃a l c,u=.slice a l c∧RowsAt opVals 2 W (.slice a l c) z:=fun u=>by
  by_cases hu:u∈us
  ·obtain ⟨a,l,c,z,e,hz⟩:=hg u hu
   exact ⟨z,fun _=>⟨a,l,c,e,hz⟩⟩
  ·exact ⟨[],fun h=>absurd h hu⟩
 let f:=fun u=>Classical.choose (hch u)
 have hf:∀u∈us,∃a l c,u=.slice a l c∧RowsAt opVals 2 W (.slice a l c) (f u):=fun u hu=>Classical.choose_spec (hch u) hu
 have hat:∀(i:Nat) u,us[i]?=some u→∃b off,a=some ⟨b,off,none⟩∧b<W.heap.size∧W.cell? ⟨b,off+i,none⟩=some u:=fun i u hi=>by
  obtain ⟨b,off,e,hb,hc⟩:=hx i u hi
  refine ⟨b,off,e,hb,?_⟩
  have:=hc 0 u rfl
  rw[show off+i*1+0=off+i by omega]at this
  exact this
 refine ⟨us.map f,⟨a,cap,by rw[List.length_map],fun i l hi=>?_⟩,fun b off n m i k c e hi hc=>?_,by rw[List.length_map];omega,fun l hl=>?_⟩
 ·rw[List.getElem?_map]at hi
  obtain ⟨u,hu,rfl⟩:=Option.map_eq_some_iff.1 hi
  obtain ⟨b,off,e,hb,hc⟩:=hat i u hu
  obtain ⟨ua,ul,uc,rfl,a2,c2,e2,h1,h2,h3,hxx⟩:=hf u (List.mem_of_getElem? hu)
  refine ⟨b,off,_,e,hb,hc,a2,c2,e2,fun j x hj=>?_⟩
  obtain ⟨b2,off2,e3,hb2,hc2⟩:=hxx j x hj
  exact ⟨b2,off2,e3,hb2,hc2 0 _ rfl,hc2 1 _ rfl⟩
 ·cases e
  obtain ⟨u,hu⟩:∃u,us[i]?=some u:=⟨_,List.getElem?_eq_getElem hi⟩
  obtain ⟨b2,off2,e,hb,hc'⟩:=hat i u hu
  cases e
  rw[hc]at hc'
  cases hc'
  obtain ⟨ua,ul,uc,e1,a2,c2,e2,h1,h2,h3,hxx⟩:=hf _ (List.mem_of_getElem? hu)
  cases e1
  have e3:=e2
  simp only[Value.slice.injEq]at e3
  exact e3.2.2.trans (h3 e3.1.symm)
 ·obtain ⟨u,hu,rfl⟩:=List.mem_map.1 hl
  obtain ⟨ua,ul,uc,rfl,a2,c2,e2,h1,h2,h3,hxx⟩:=hf u hu
  omega
end
section
open Go.RowKit Qs Qh Qc Qg Qk
variable {N:Nat}{w w':World}{v vs:Value}{ll:List (List ROp)}{a:Nat→Addr}{f:Nat}{q:List (List COp)}{l:List Int}
theorem longB_false4{ll:List (List ROp)}(h:longB ll=false):ll.length≤10∧∀l∈ll,l.length≤30:=by
 unfold longB at h
 simp only[Bool.or_eq_false_iff,decide_eq_false_iff_not]at h
 refine ⟨by omega,fun l hl=>rowLong_false ?_⟩
 have:=List.any_eq_false.1 h.2 l hl
 simpa using this
theorem nilOk_keep4{oa:Option Addr}{n oc:Nat}(HH:RIn N w (.slice oa n oc) ll)(hn:ll.length=n)(hnil:NilOk w (.slice oa n oc)){w1:World}(hm:Mod noF w w1):NilOk w1 (.slice oa n oc):=fun b off n' m i k c e hi hc=>by
 obtain ⟨a2,c2,e2,hx⟩:=HH
 rw[hn]at e2
 cases e2
 cases e
 obtain ⟨l,hl⟩:∃l,ll[i]?=some l:=⟨_,List.getElem?_eq_getElem (by omega)⟩
 obtain ⟨b2,off2,u2,e3,hb2,hc2,-⟩:=hx i l hl
 cases e3
 have:=hm.cell hc2 (fun e=>e)
 rw[this]at hc
 cases hc
 exact hnil b off _ _ i k c rfl hi hc2
theorem safe_of(hk:(cfG (rawC q)).1=0)(hs:csG (rawC q)=true)(h20:∀l∈q,l.length≤20)(hp:∀l∈q,∀n,COp.put n∈l→1≤n∧n≤1000)(hr:∀l∈q,cRowF (l.map cR)=none):SafeOps q:=by
 refine ⟨h20,hp,fun l hl=>?_⟩
 have h1:=hr l hl
 unfold cRowF at h1
 by_cases e:(cRun c0 (l.map cR)).1≠0
 ·rw[if_pos e]at h1;cases h1
 ·rw[if_neg e]at h1
  by_cases e2:(cRun c0 (l.map cR)).2.d≠0
  ·rw[if_pos e2]at h1;cases h1
  ·unfold csG at hs
   simp only[Bool.and_eq_true,List.all_eq_true]at hs
   have:=hs.2 (l.map cR) (List.mem_map_of_mem hl)
   unfold cSafe at this
   exact ⟨by omega,by omega,by simpa using this⟩
theorem cs_out{f:Int}(E:ErrsC w a)(HK:KindsW w)(H:RIn N w v ll)(hll:ll.length≤maxLen)(hrl:∀l∈ll,l.length≤maxLen)(Hs:IntsAt w vs l)(hg:¬(longB ll=false∧l.length≤3000∧1≤f∧f≤4)) :
  Calls Tryz.prog 4 #[.int .i64 f,v,vs] w fun e w'=>e=.returned (.bool true)∧Mod noF w w':=by
 have hlg:=fun w' (hm:Mod noF w w')=>long2_any (H.keep hm (fun _ _ e=>e)) hll hrl
 have Hlg:=Lib.hid hlg
 have Hb:=Lib.hid (built_ok E HK)
 obtain ⟨oa,oc,rfl,-⟩:=H
 obtain ⟨sa,sc,rfl,hcm,-⟩:=Hs.at_
 clear hlg hrl E HK Hs
 cases hL:longB ll with
 |true=>
  rw[hL]at Hlg
  go_enter Tryz.func4,Tryz.ntmps4
  go_wp2_with fail
  refine Hb.out.mono ?_
  rintro e w1 ⟨rfl,hm1⟩
  have Hm1:=Lib.hid hm1
  clear hm1
  go_wp2_with fail
  refine (Hlg.out _ Hm1.out).mono ?_
  rintro e w1 ⟨rfl,rfl⟩
  go_wp2
  go_ret
  exact ⟨rfl,Hm1.out⟩
 |false=>
  rw[hL]at Hlg
  have hg':¬(l.length≤3000∧1≤f∧f≤4):=fun e=>hg ⟨by first|rfl|exact hL,e⟩
  by_cases g1:3000<l.length
  ·have d1:decide ((3000:Int)<(l.length:Int))=true:=by simp;omega
   go_enter Tryz.func4,Tryz.ntmps4
   go_wp2_with fail
   refine Hb.out.mono ?_
   rintro e w1 ⟨rfl,hm1⟩
   have Hm1:=Lib.hid hm1
   clear hm1
   go_wp2_with fail
   refine (Hlg.out _ Hm1.out).mono ?_
   rintro e w1 ⟨rfl,rfl⟩
   go_wp2
   go_ret
   exact ⟨rfl,Hm1.out⟩
  ·have d1:decide ((3000:Int)<(l.length:Int))=false:=by simp;omega
   by_cases g2:f<1
   ·have d2:decide (f<1)=true:=by simp;omega
    go_enter Tryz.func4,Tryz.ntmps4
    go_wp2_with fail
    refine Hb.out.mono ?_
    rintro e w1 ⟨rfl,hm1⟩
    have Hm1:=Lib.hid hm1
    clear hm1
    go_wp2_with fail
    refine (Hlg.out _ Hm1.out).mono ?_
    rintro e w1 ⟨rfl,rfl⟩
    go_wp2
    go_ret
    exact ⟨rfl,Hm1.out⟩
   ·have d2:decide (f<1)=false:=by simp;omega
    have d3:decide ((4:Int)<f)=true:=by simp;omega
    go_enter Tryz.func4,Tryz.ntmps4
    go_wp2_with fail
    refine Hb.out.mono ?_
    rintro e w1 ⟨rfl,hm1⟩
    have Hm1:=Lib.hid hm1
    clear hm1
    go_wp2_with fail
    refine (Hlg.out _ Hm1.out).mono ?_
    rintro e w1 ⟨rfl,rfl⟩
    go_wp2
    go_ret
    exact ⟨rfl,Hm1.out⟩
theorem cs_bad(E:ErrsC w a)(HK:KindsW w)(H:RIn N w v ll)(hL:longB ll=false)(Hs:IntsAt w vs l)(hl:l.length≤3000)(hf1:1≤f)(hf4:f≤4)(hk:¬((cfG ll).1=0∧csG ll=true)) :
  Calls Tryz.prog 4 #[.int .i64 f,v,vs] w fun e w'=>e=.returned (.bool true)∧Mod noF w w':=by
 obtain ⟨h10,h30⟩:=longB_false4 hL
 have hlg:=fun w' (hm:Mod noF w w')=>long2_any (H.keep hm (fun _ _ e=>e)) (by unfold maxLen;omega) (fun l hl=>by have:=h30 l hl;unfold maxLen;omega)
 rw[hL]at hlg
 have Hlg:=Lib.hid hlg
 have Hb:=Lib.hid (built_ok E HK)
 have hcf:=fun w' (hm:Mod noF w w')=>cfault_ok (H.keep hm (fun _ _ e=>e)) h10 h30
 obtain ⟨oa,oc,rfl,-⟩:=H
 obtain ⟨sa,sc,rfl,hcm,-⟩:=Hs.at_
 have d1:decide ((3000:Int)<(l.length:Int))=false:=by simp;omega
 have d2:decide ((f:Int)<1)=false:=by simp;omega
 have d3:decide ((4:Int)<(f:Int))=false:=by simp;omega
 have hkp:0≤(cfG ll).1:=by
  rcases cfG_num ll with h|h|h|h|h
  ·rw[h];decide
  all_goals omega
 generalize (cfG ll).1=fc at *
 generalize (cfG ll).2=fp at *
 generalize csG ll=sb at *
 have Hcf:=Lib.hid hcf
 clear hlg E HK Hs hcf h30 hL
 by_cases hz:fc=0
 ·subst hz
  obtain rfl:sb=false:=by
   cases sb with
   |false=>rfl
   |true=>exact absurd ⟨rfl,rfl⟩ hk
  clear hk
  go_enter Tryz.func4,Tryz.ntmps4
  go_wp2_with fail
  refine Hb.out.mono ?_
  rintro e w1 ⟨rfl,hm1⟩
  have Hm1:=Lib.hid hm1
  clear hm1
  go_wp2_with fail
  refine (Hlg.out _ Hm1.out).mono ?_
  rintro e w1 ⟨rfl,rfl⟩
  go_wp2_with fail
  refine (Hcf.out _ Hm1.out).mono ?_
  rintro e w2 ⟨rfl,hm2⟩
  have Hm2:=Lib.hid hm2
  clear hm2
  go_wp2
  go_ret
  exact ⟨rfl,Hm1.out.trans0 (Hm2.out.alloc _)⟩
 ·have dk:decide ((0:Int)<fc)=true:=by simp;omega
  clear hk
  go_enter Tryz.func4,Tryz.ntmps4
  go_wp2_with fail
  refine Hb.out.mono ?_
  rintro e w1 ⟨rfl,hm1⟩
  have Hm1:=Lib.hid hm1
  clear hm1
  go_wp2_with fail
  refine (Hlg.out _ Hm1.out).mono ?_
  rintro e w1 ⟨rfl,rfl⟩
  go_wp2_with fail
  refine (Hcf.out _ Hm1.out).mono ?_
  rintro e w2 ⟨rfl,hm2⟩
  have Hm2:=Lib.hid hm2
  clear hm2
  go_wp2
  go_ret
  exact ⟨rfl,Hm1.out.trans0 (Hm2.out.alloc _)⟩
theorem cs_good(E:ErrsC w a)(HK:KindsW w)(H:RIn N w v (rawC q))(hnil:NilOk w v)(hN:N≤w.heap.size)(hL:longB (rawC q)=false)(hk:(cfG (rawC q)).1=0)(hsb:csG (rawC q)=true)(h1:1≤q.length)(h6:q.length≤6)(S:SafeOps q)(hf1:1≤f)(hf4:f≤4)
  (Hs:IntsAt w vs l) (hl:l.length≤3000) (hlw:∀x∈l,-9223372036854775808≤x∧x≤9223372036854775807) (hvb:l≠[]→∀b,vs.ownBlock=some b→b<w.heap.size) :
  Calls Tryz.prog 4 #[.int .i64 f,v,vs] w fun e w'=>e=.returned (.bool true)∧Mod noF w w':=by
 obtain ⟨h10,h30⟩:=longB_false4 hL
 have hrl:(rawC q).length=q.length:=by simp[rawC]
 have hlg:=fun w' (hm:Mod noF w w')=>long2_any (H.keep hm (fun _ _ e=>e)) (by unfold maxLen;omega) (fun l hl=>by have:=h30 l hl;unfold maxLen;omega)
 rw[hL]at hlg
 have Hlg:=Lib.hid hlg
 have Hb:=Lib.hid (built_ok E HK)
 have hcf:=fun w' (hm:Mod noF w w')=>cfault_ok (H.keep hm (fun _ _ e=>e)) h10 h30
 rw[hk,hsb]at hcf
 have Hcf:=Lib.hid hcf
 have h20r:∀l∈rawC q,l.length≤20:=fun l hl=>by
  obtain ⟨l',hl',rfl⟩:=List.mem_map.1 hl
  have:=S.h20 l' hl'
  rw[List.length_map];omega
 have hpu:=fun w' (hm:Mod noF w w')=>puts_ok (H.keep hm (fun _ _ e=>e)) (by rw[hrl];exact h6) h20r
 have Hpu:=Lib.hid hpu
 have HH:=Lib.hid H
 obtain ⟨oa,oc,rfl,-⟩:=H
 rw[hrl]at HH hnil Hlg Hcf Hpu ⊢
 have Hnil:=Lib.hid (fun w1 (hm:Mod noF w w1)=>nilOk_keep4 HH.out hrl hnil hm)
 have HSs:=Lib.hid Hs
 obtain ⟨sa,sc,rfl,hcm,-⟩:=Hs.at_
 have d1:decide ((3000:Int)<(l.length:Int))=false:=by simp;omega
 have d2:decide ((f:Int)<1)=false:=by simp;omega
 have d3:decide ((4:Int)<(f:Int))=false:=by simp;omega
 have hnf:=noFault4
 have HE:=Lib.hid E
 have HKW:=Lib.hid HK
 have H30:=Lib.hid h30
 have Hk:=Lib.hid hk
 have H20:=Lib.hid S.h20
 have hfn:=c_fine (f:=f) hf1 hf4 h6 S.h20 S.hp
 have Hfn:=Lib.hid hfn
 have hlaw:=cs_law hf1 hf4 h1 h6 S l (by omega)
 have Hlaw:=Lib.hid hlaw
 have Hlw:=Lib.hid hlw
 have Hvb:=Lib.hid hvb
 have hpl:=putsA_len (rawC q) h20r
 rw[hrl]at hpl
 clear hlg hcf hpu h20r Hs hnil E HK h30 hL hk hsb S hfn hlaw hlw hvb hrl
 go_enter Tryz.func4,Tryz.ntmps4
 go_wp2_with fail
 refine Hb.out.mono ?_
 rintro e w1 ⟨rfl,hm1⟩
 have Hm1:=Lib.hid hm1
 clear hm1 Hb
 go_wp2_with fail
 refine (Hlg.out _ Hm1.out).mono ?_
 rintro e w1 ⟨rfl,rfl⟩
 clear Hlg
 go_wp2_with fail
 refine (Hcf.out _ Hm1.out).mono ?_
 rintro e w2 ⟨rfl,hm2⟩
 have Hm2:=Lib.hid (Hm1.out.trans0 hm2)
 clear hm2 Hcf
 generalize (cfG (rawC q)).2=fp at *
 go_wp2_with fail
 have hqF:=Hm2.out.trans0 ((Mod.refl noF w2).alloc (.cells #[.int .i64 0,.int .i64 fp] 27))
 refine (opsOf2_ok (HH.out.keep hqF (fun _ _ e=>e)) (Hnil.out _ hqF) h10 H30.out).mono ?_
 rintro e w3 ⟨x,rfl,hm3,hR3⟩
 have Hm3:=Lib.hid (hqF.trans0 hm3)
 have HR3:=Lib.hid hR3
 obtain ⟨xa,xc,rfl,-⟩:=hR3
 clear hm3 hqF Hnil
 go_wp2_with fail
 refine (cbuild_ok (HE.out.keep Hm3.out) (HKW.out.keep Hm3.out) HR3.out (Nat.le_refl _) Hk.out h1 h6 H20.out hf1 hf4).mono ?_
 rintro e w4 ⟨iv,rv,cv,vk4,rfl,hm4,hI,hR,hC⟩
 have HI:=Lib.hid hI
 have HR:=Lib.hid hR
 obtain ⟨ca,cc,rfl,hcx⟩:=hC
 have HC4:=Lib.hid (show CodesAt w4 (.slice ca (cCodes f q).length cc) (cCodes f q) vk4 from ⟨ca,cc,rfl,hcx⟩)
 rw[cCodes_len]at HC4 ⊢
 have Hm4:=Lib.hid (Hm3.out.trans0 hm4)
 obtain ⟨ia,ic,rfl,-⟩:=hI
 obtain ⟨ra,rc,rfl,-⟩:=hR
 rw[cInit_len]at HI ⊢
 rw[cRegs_len]at HR ⊢
 clear hm4 hcx HR3
 go_wp2_with fail
 refine (backStart_ok 64 ia ra _ ic _ rc _).mono ?_
 rintro e w5 ⟨rfl,hm5⟩
 have hq4:=(Mod.refl noF w4).alloc (.cells #[.int .i64 64,.slice ia (q.length+5) ic,.slice ra q.length rc] 32)
 have hT5:=hm5.heap (heap_alloc_new w4 (.cells #[.int .i64 64,.slice ia (q.length+5) ic,.slice ra q.length rc] 32)) (fun e=>e)
 have HT5:=Lib.hid hT5
 have Hm5:=Lib.hid (hq4.trans0 hm5)
 clear hm5 hq4 hT5
 go_wp2_with fail
 have hI5:=HI.out.keepM Hm5.out
 have hR5:=HR.out.keepM Hm5.out
 have hC5:=CodesAt.keepM HC4.out Hm5.out
 refine (startFault_ok 64 _ _ _ (cInit f q.length) (cRegs q.length) _ _ _ hI5 hR5 hC5 (by omega) (by omega) (by rw[cCodes_len];exact h1) (by rw[cCodes_len];exact h6) (by rw[cInit_len];omega) (by rw[cCodes_len,cRegs_len];omega) (cInit_fine f _ h6) (cRegs_fine _ h6) Hfn.out).mono ?_
 rintro e w6 ⟨rfl,hm6⟩
 have Hm6:=Lib.hid (Hm5.out.trans0 hm6)
 have HT6:=Lib.hid (hm6.heap HT5.out (fun e=>e))
 have c0:=cell_of_heap HT6.out 0
 have c1:=cell_of_heap HT6.out 1
 have c2:=cell_of_heap HT6.out 2
 replace c0:w6.cell? ⟨w4.heap.size,0,none⟩=some (.int .i64 64):=c0
 replace c1:w6.cell? ⟨w4.heap.size,1,none⟩=some (.slice ia (q.length+5) ic):=c1
 replace c2:w6.cell? ⟨w4.heap.size,2,none⟩=some (.slice ra q.length rc):=c2
 clear hm6 hI5 hR5 hC5 HT5
 go_wp2_with fail
 refine (backStart_ok 64 ia ra _ ic _ rc _).mono ?_
 rintro e w7 ⟨rfl,hm7⟩
 have Hm7:=Lib.hid (Hm6.out.trans0 hm7)
 clear hm7 c0 c1 c2 HT6
 go_wp2_with fail
 have hI7:=HI.out.keepM Hm7.out
 have hR7:=HR.out.keepM Hm7.out
 have hC7:=CodesAt.keepM HC4.out Hm7.out
 refine (newMachine_ok 64 _ _ _ (cInit f q.length) (cRegs q.length) _ _ _ hI7 hR7 hC7 (by omega) (by omega) (by rw[cCodes_len];exact h1) (by rw[cCodes_len];exact h6) (by rw[cInit_len];omega) (by rw[cCodes_len,cRegs_len]) (cInit_fine f _ h6) (cRegs_fine _ h6) Hfn.out).mono ?_
 rintro e w8 ⟨L,rfl,hX,hb8,hf8⟩
 have HX:=Lib.hid (show Mach ty w8 L (cM f q) 1 from hX)
 have hq8:=Mod.below hb8
 have Hm8:=Lib.hid (Hm4.out.trans0 (Hm7.out.trans0 hq8))
 have hfw:∀j,Foot ty allK L (cM f q) j→w.heap.size≤j:=fun j hj=>by
  have h1:=hf8 j hj
  have h2:=(Hm4.out.trans0 Hm7.out).size
  omega
 have Hfw:=Lib.hid hfw
 clear hX hb8 hf8 hq8 hfw hI7 hR7 hC7 HI HR HC4 Hm7 Hm6 Hm5 Hm4 Hm3
 go_wp2_with fail
 refine (run_any HX.out (easy_any _) (by omega) _ l (HSs.out.frame0 Hm8.out) (by omega) Hlw.out (fun h0 b hb hf=>by have:=Hvb.out h0 b hb;have:=Hfw.out b hf;omega)).mono ?_
 rintro e w9 ⟨rfl,L9,U⟩
 have h9:Mod noF w w9:=Hm8.out.trans U.mod fun x hx hf=>by have:=Hfw.out x hf;omega
 have hX9:=U.mach
 have htop:=U.top.1
 have E:=Hlaw.out
 generalize ((cM f q).run l).1=m9 at hX9 E
 generalize ((cM f q).run l).2=d9 at *
 obtain ⟨ka,kc,htold,hmkc⟩:=hX9.told
 have hh:=hX9.head
 rw[htop,htold,E.1]at hh
 have x3:w9.cell? ⟨L.blk 0 0,3,none⟩=some (.int .i64 0):=by rw[cell_of_heap hh];rfl
 have x2:w9.cell? ⟨L.blk 0 0,2,none⟩=some (.slice ka m9.marks.length kc):=by rw[cell_of_heap hh];rfl
 have H9:=Lib.hid h9
 have Hmkc:=Lib.hid hmkc
 have HV:=Lib.hid E.2
 have h500:=hX9.ot.marks
 clear h9 hmkc hX9 htop E htold hh U HX Hm8 Hlaw Hfw HSs Hlw Hvb
 go_wp2_with fail
 refine (Hpu.out _ H9.out).mono ?_
 rintro e w10 ⟨x,rfl,hm10,hx,hxv⟩
 have x3:=hm10.cell x3 (fun e=>e)
 have x2:=hm10.cell x2 (fun e=>e)
 have hxi:=hx.ints
 obtain ⟨pa,pc,rfl,-⟩:=hxi.at_
 have Hxi:=Lib.hid hxi
 have Hm10:=Lib.hid hm10
 clear hm10 hx hxv hxi Hpu
 go_wp2
 go_loopw [15] (fun i wr=>∃k:Nat,k≤m9.marks.length∧i=.int .i64 k∧Mod noF w10 wr) (fun i _=>m9.marks.length - (intOf i).toNat)
 case atStart=>exact ⟨0,Nat.zero_le _,rfl,Mod.refl _ _⟩
 case round=>
  generalize wr=w11 at *
  obtain ⟨k,hk,rfl,hm11⟩:=hrel
  have x3:=hm11.cell x3 (fun e=>e)
  have x2:=hm11.cell x2 (fun e=>e)
  by_cases hlt:k<m9.marks.length
  ·have hd3:decide ((k:Int)<(m9.marks.length:Int))=true:=by simp;omega
   have hki:(k:Int)<(m9.marks.length:Int):=by omega
   obtain ⟨y,hy⟩:∃y,m9.marks[k]?=some y:=⟨_,List.getElem?_eq_getElem hlt⟩
   obtain ⟨kb,rfl,hkb,k0,k1⟩:=Hmkc.out k y hy
   have k1:=(Hm10.out.trans0 hm11).cell k1 (fun e=>e)
   have hin:=putsA_mem (HV.out y (List.mem_of_getElem? hy))
   have hcall:=has_in (n:=y.2) (Hxi.out.frame0 hm11) (by omega) hin
   have Hcall:=Lib.hid hcall
   have Hm11:=Lib.hid hm11
   clear hm11 hy k0 hin hcall
   generalize y.2=yv at *
   go_wp2_with fail
   refine Hcall.out.mono ?_
   rintro e w12 ⟨rfl,rfl⟩
   clear Hcall
   go_wp2
   go_roundw
   case rel=>exact ⟨k+1,by omega,by go_num,Hm11.out⟩
   case measure=>simp[intOf];omega
  ·have hd3:decide ((k:Int)<(m9.marks.length:Int))=false:=by simp;omega
   have Hm11:=Lib.hid hm11
   clear hm11
   go_wp2
   go_ret
   exact ⟨rfl,(H9.out.trans0 Hm10.out).trans0 Hm11.out⟩
theorem clientSafe_any(a0:Int)(a1:Option Addr)(len1 cap1:Nat)(z1:List (List ROp))(a2:Option Addr)(len2 cap2:Nat)(z2:List Int)(w:World)(hw:(Lit.int .i64 a0).wf=true)(h0:IsOps w a1 len1 cap1 z1)(hs:IsRow .i64 w a2 len2 cap2 z2)(HK:KindsW w)(hE:∃a,ErrsC w a) :
  Calls Tryz.prog 4 #[.int .i64 a0,.slice a1 len1 cap1,.slice a2 len2 cap2] w fun e w'=>e=.returned (.bool true)∧Below w.heap.size w w':=by
 obtain ⟨H,hnil,h1,h2⟩:=h0
 obtain ⟨a,E⟩:=hE
 obtain ⟨l,hl,hlw,hvb⟩:=hs.ints
 have key:Calls Tryz.prog 4 #[.int .i64 a0,.slice a1 len1 cap1,.slice a2 len2 cap2] w fun e w'=>e=.returned (.bool true)∧Mod noF w w':=by
  by_cases hg:longB z1=false∧l.length≤3000∧1≤a0∧a0≤4
  ·obtain ⟨f,rfl⟩:∃f:Nat,a0=(f:Int):=⟨a0.toNat,by omega⟩
   by_cases hk:(cfG z1).1=0∧csG z1=true
   ·obtain ⟨q,rfl,g1,g6,g20,gp,gr⟩:=good_rawC hk.1
    exact cs_good E HK H hnil (Nat.le_refl _) hg.1 hk.1 hk.2 g1 g6 (safe_of hk.1 hk.2 g20 gp gr) (by omega) (by omega) hl hg.2.1 hlw hvb
   ·exact cs_bad E HK H hg.1 hl hg.2.1 (by omega) (by omega) hk
  ·exact cs_out E HK H h1 h2 hl hg
 exact key.mono fun e w' ⟨he,hm⟩=>⟨he,hm.under (Nat.le_refl _) fun k hk=>hk.elim⟩
end
end Go.Proofs.YtppihkneeolomaaGreatDoor
