/- Texts that belong together, joined. -/
import Derived.Test.YtciaficoeajeaaaGreatDoorWFm8
import Derived.Laws.CopyOwn
import Derived.Test.YtciaficoeajeaaaGreatDoorWFm4
import Derived.LoopTactic
import Derived.OwnWalk
import Derived.StillTailTactics
import Derived.Test.YtciaficoeajeaaaGreatDoorWFm5
import Derived.ChangeArms
import Derived.Lib.SmallJoins
set_option linter.unusedVariables false
set_option linter.unusedSimpArgs false
set_option linter.unusedSectionVars false
set_option maxHeartbeats 8000000
set_option maxRecDepth 100000
namespace Go.Proofs.YtciaficoeajeaaaGreatDoor
section
open Go.RowKit Qs Qh
variable {w w1 w2 w':World}{X:XB}{vs vs':List Value}{mv mv':Value}{m m':M}
theorem wpList_copy_mod{P:Program}{w:World}{ops:Array Oper}{rest:List Oper}{o:Oper}{a:Act}{Q:Exit→Act→World→Prop}(hgd:o.guard=none)(d s:Operand)(dT sT:TypeId)
  (ho:o.op=.call {callee:=.builtin .copy,args:=#[d,s],argTypes:=#[dT,sT]}) (elem:TypeId) (hu:P.underlying dT=some (.slice elem)) (hsz:(P.info? elem).map (·.size)=some 1)
  (sp:Option Addr) (dLen dCap sLen sCap:Nat) (g off:Nat) (hd:a.eval d=.slice (some ⟨g,off,none⟩) dLen dCap) (hs:a.eval s=.slice sp sLen sCap)
  (cur:List Value) (t:TypeId) (hg:w.heap[g]?=some (.cells cur.toArray t (0,0))) (cs:List Value) (hn:cs.length=Nat.min sLen dLen)
  (hsrc:0<cs.length→∃ad,sp=some ad∧∀j v,cs[j]?=some v→w.cell? (ad.add j)=some v)
  (hfit:off+cs.length≤cur.length) (h1:∀v∈cs,v.oneCell'=true)
  (h:∀w',w'.heap[g]?=some (.cells (splice cur off cs).toArray t (0,0))→Mod (fun x=>x=g) w w'→wpList P ops Q rest (a.put o.dst (goInt cs.length)) w') :
  wpList P ops Q (o :: rest) a w:=by
 by_cases h0:cs.length=0
 ·obtain rfl:cs=[]:=List.eq_nil_of_length_eq_zero h0;refine wpList_copy_nothing hgd d s dT sT ho elem hu hsz (some ⟨g,off,none⟩) sp dLen dCap sLen sCap hd hs (by simpa using hn.symm) ?_;exact h w (show _=_ by simpa[splice]using hg) (Mod.refl _ _)
 ·obtain ⟨ad,rfl,hsrc2⟩:=hsrc (by omega);refine wpList_copy_own hgd d s dT sT ho elem hu hsz g off dLen dCap ad sLen sCap hd hs cur.toArray t hg cs hn hsrc2 (by simpa using hfit) h1 ?_
  exact h _ (show _=_ by simpa[splice]using setRow_heap w g _ _ t _ hg) ⟨rfl,rfl,rfl,by simp[World.setRow],fun k hk hf=>setRow_other w g k _ hf⟩
theorem copy_run{P:Program}(w:World)(dT sT ty elem:TypeId)(hu:P.underlying dT=some (.slice elem))(hsz:(P.info? elem).map (·.size)=some 1)
  (sp:Option Addr) (dLen dCap sLen sCap:Nat) (g off:Nat) (cur:List Value) (t:TypeId) (hg:w.heap[g]?=some (.cells cur.toArray t (0,0))) (cs:List Value) (hn:cs.length=Nat.min sLen dLen)
  (hsrc:0<cs.length→∃ad,sp=some ad∧∀j v,cs[j]?=some v→w.cell? (ad.add j)=some v)
  (hfit:off+cs.length≤cur.length) (h1:∀v∈cs,v.oneCell'=true) :
  ∃w',(Builtin.copy_ #[dT,sT] ty #[.slice (some ⟨g,off,none⟩) dLen dCap,.slice sp sLen sCap]).run P w=.ok (goInt cs.length) w'∧w'.heap[g]?=some (.cells (splice cur off cs).toArray t (0,0))∧Mod (fun x=>x=g) w w':=by
 by_cases h0:cs.length=0
 ·obtain rfl:cs=[]:=List.eq_nil_of_length_eq_zero h0;have hrun:=run_copy_none (P:=P) w dT sT ty elem (some ⟨g,off,none⟩) sp dLen dCap sLen sCap hu hsz (by simpa using hn.symm);exact ⟨w,hrun,by simpa[splice]using hg,Mod.refl _ _⟩
 ·obtain ⟨ad,rfl,hsrc2⟩:=hsrc (by omega);have hrun:=run_copy_row (P:=P) w dT sT ty elem g off dLen dCap ad sLen sCap cur.toArray t cs hu hsz hg hn hsrc2 (by simpa using hfit) h1
  exact ⟨_,hrun,by simpa[splice]using setRow_heap w g _ _ t _ hg,⟨rfl,rfl,rfl,by simp[World.setRow],fun k hk hf=>setRow_other w g k _ hf⟩⟩
theorem flat_cut{α : Type}(f:Nat→α→List Value)(n:Nat)(hf:∀s x,(f s x).length=n):∀(l:List α) (s t:Nat) (x : α),l[t]?=some x→
  ∃A B,A.length=t*n∧flat f s l=A++(f (s+t) x++B)∧∀y,flat f s (l.set t y)=A++(f (s+t) y++B)
 |[],s,t,x,h=>by simp at h
 |z :: l,s,0,x,h=>by cases h;exact ⟨[],flat f (s+1) l,by simp,rfl,fun y=>rfl⟩
 |z :: l,s,t+1,x,h=>by
  obtain ⟨A,B,hA,h1,h2⟩:=flat_cut f n hf l (s+1) t x (by simpa using h)
  have e:s+1+t=s+(t+1):=by omega
  rw[e]at h1 h2;refine ⟨f s z++A,B,?_,?_,fun y=>?_⟩
  ·rw[List.length_append,hf,hA,Nat.add_mul];omega
  ·simp only[flat,h1,List.append_assoc]
  ·simp only[List.set_cons_succ,flat,h2,List.append_assoc]
theorem splice_mid(A V B cs:List Value)(o:Nat)(h:o+cs.length≤V.length):splice (A++(V++B)) (A.length+o) cs=A++(splice V o cs++B):=by
 unfold splice
 rw[List.take_append,List.take_of_length_le (by omega),show A.length+o - A.length=o from by omega,List.take_append_of_le_length (by omega),
  show A.length+o+cs.length=A.length+(o+cs.length)from by omega,List.drop_append,List.drop_eq_nil_of_le (by omega),show A.length+(o+cs.length) - A.length=o+cs.length from by omega,List.drop_append_of_le_length h]
 simp
theorem PMach.setThrG(h:PMach w X vs mv m){t:Nat}{k k':Thr}(ht:m.T[t]?=some k)(hc:k'.code=k.code)(hM:Mod (fun x=>x=X.bL) w w')
  (hb':∃junk,w'.heap[X.bL]?=some (.cells (flat (tVals X) 0 (m.T.set t k')++junk).toArray 99 (0,0))):XUp w X vs mv m w' {m with T:=m.T.set t k'} vs mv:=by
 obtain ⟨n1,n2,n3⟩:=h.nX
 have hT:∀(u:Nat) k2,(m.T.set t k')[u]?=some k2→∃k1,m.T[u]?=some k1∧k2.code=k1.code:=fun u k2 hu=>by
  rw[List.getElem?_set]at hu
  by_cases e:t=u
  ·subst e;rw[if_pos rfl,if_pos (List.getElem?_eq_some_iff.1 ht).1]at hu;cases hu;exact ⟨k,ht,hc⟩
  ·rw[if_neg e]at hu;exact ⟨k2,hu,rfl⟩
 have hcn:∀(u:Nat) k1,m.T[u]?=some k1→(∀g,(X.cv u).ownBlock=some g→¬g=X.bL)∧¬X.mb u=X.bL:=fun u k1 hu=>
  ⟨fun g hg e=>((h.code u k1 hu).2 g hg).1 (.inr (.inl e)),fun e=>(h.maps u k1 hu).2 (.inr (.inl e))⟩
 refine ⟨⟨?_,hb',h.mem.keep hM (fun x hx e=>n3 (e ▸ hx)),fun u k2 hu=>?_,fun u k2 hu=>?_,h.marks.keep hM (fun g hg=>(h.nM g hg).2.1),h.nX,h.nM⟩,hM.mono fun x _ e=>.inr (.inl e),fun _ h=>.inl h⟩
 ·have:=hM.heap h.top n1
  simpa using this
 ·obtain ⟨k1,hk1,e⟩:=hT u k2 hu;obtain ⟨a,b⟩:=h.code u k1 hk1;rw[e];exact ⟨a.frame hM (hcn u k1 hk1).1,fun g hg=>⟨(b g hg).1,Nat.lt_of_lt_of_le (b g hg).2 hM.size⟩⟩
 ·obtain ⟨k1,hk1,e⟩:=hT u k2 hu;obtain ⟨a,b⟩:=h.maps u k1 hk1;rw[e];exact ⟨a.keep hM (hcn u k1 hk1).2,b⟩
def zero8:List Int:=[0,0,0,0,0,0,0,0]
theorem tVals_pad(X:XB)(t:Nat)(c:List Instr)(p:Nat){l:List Int}(hl:l.length≤8):splice (tVals X t ⟨c,zero8,p⟩) 2 (l.map (Value.int .i64))=tVals X t ⟨c,pad 8 l,p⟩:=by
 match l,hl with
 |[],_=>rfl
 |[_],_=>rfl
 |[_,_],_=>rfl
 |[_,_,_],_=>rfl
 |[_,_,_,_],_=>rfl
 |[_,_,_,_,_],_=>rfl
 |[_,_,_,_,_,_],_=>rfl
 |[_,_,_,_,_,_,_],_=>rfl
 |[_,_,_,_,_,_,_,_],_=>rfl
 |a :: b :: c :: d :: e :: f :: g :: h :: i :: r,hl=>simp at hl
def regT(regs:List (List Int))(k:Nat)(cs:List (List Instr)):List Thr:=cs.mapIdx fun i c=>⟨c,if i<k then pad 8 (regs.getD i [])else zero8,0⟩
theorem regT_zero(regs:List (List Int))(cs:List (List Instr)):regT regs 0 cs=cs.map newThr:=by
 apply List.ext_getElem?;intro i;simp[regT,zero8];rfl
theorem regT_get{regs:List (List Int)}{k:Nat}{cs:List (List Instr)}{c:List Instr}{i:Nat}(h:cs[i]?=some c):(regT regs k cs)[i]?=some ⟨c,if i<k then pad 8 (regs.getD i [])else zero8,0⟩:=by
 simp[regT,h]
theorem regT_len(regs:List (List Int))(k:Nat)(cs:List (List Instr)):(regT regs k cs).length=cs.length:=by simp[regT]
theorem regT_succ{regs:List (List Int)}{k:Nat}{cs:List (List Instr)}{c:List Instr}{l:List Int}(h:cs[k]?=some c)(hl:regs[k]?=some l):(regT regs k cs).set k ⟨c,pad 8 l,0⟩=regT regs (k+1) cs:=by
 have hk:=(List.getElem?_eq_some_iff.1 h).1;apply List.ext_getElem?;intro i;rw[List.getElem?_set]
 by_cases e:k=i
 ·subst e;rw[if_pos rfl,if_pos (by rw[regT_len];exact hk),regT_get h,if_pos (by omega)];simp[List.getD,hl]
 ·rw[if_neg e]
  by_cases hi:i<cs.length
  ·obtain ⟨d,hd⟩:∃d,cs[i]?=some d:=⟨_,List.getElem?_eq_getElem hi⟩;rw[regT_get hd,regT_get hd]
   by_cases h1:i<k
   ·rw[if_pos h1,if_pos (by omega)]
   ·rw[if_neg h1,if_neg (by omega)]
  ·rw[List.getElem?_eq_none (by rw[regT_len];omega),List.getElem?_eq_none (by rw[regT_len];omega)]
theorem regT_done{regs:List (List Int)}{cs:List (List Instr)}:regT regs regs.length cs=cs.mapIdx fun i c=>⟨c,pad 8 (regs.getD i []),0⟩:=by
 apply List.ext_getElem?;intro i
 by_cases hi:i<cs.length
 ·obtain ⟨d,hd⟩:∃d,cs[i]?=some d:=⟨_,List.getElem?_eq_getElem hi⟩;rw[regT_get hd]
  by_cases h1:i<regs.length
  ·rw[if_pos h1];simp[hd]
  ·rw[if_neg h1]
   have:regs.getD i []=[]:=by rw[List.getD_eq_getElem?_getD,List.getElem?_eq_none (by omega)];rfl
   simp only[List.getElem?_mapIdx,hd,Option.map_some,this];rfl
 ·rw[List.getElem?_eq_none (by rw[regT_len];omega),List.getElem?_eq_none (by simp;omega)]
theorem PMach.setRegs(h:PMach w X vs mv m){t:Nat}{c:List Instr}{p:Nat}(ht:m.T[t]?=some ⟨c,zero8,p⟩){l:List Int}(hl:l.length≤8){junk:List Value}
  (hM:Mod (fun x=>x=X.bL) w w') (hg:w'.heap[X.bL]?=some (.cells (splice (flat (tVals X) 0 m.T++junk) (t*11+2) (l.map (Value.int .i64))).toArray 99 (0,0))) :
  XUp w X vs mv m w' {m with T:=m.T.set t ⟨c,pad 8 l,p⟩} vs mv:=by
 refine h.setThrG ht rfl hM ⟨junk,?_⟩;obtain ⟨A,B,hA,h1,h2⟩:=flat_cut (tVals X) 11 (tVals_len X) m.T 0 t _ ht;rw[hg,h1,h2,←hA,List.append_assoc,List.append_assoc];rw[splice_mid A _ (B++junk) _ 2 (by rw[List.length_map,tVals_len];omega),tVals_pad X _ c p hl];simp[List.append_assoc]
end
section
open Go.RowKit Qs Qh
def RCodesAt(w:World)(v:Value)(cs:List (List RI))(cv:Nat→Value):Prop:=
 ∃a c,v=.slice a cs.length c∧∀(i:Nat) l,cs[i]?=some l→∃b off,a=some ⟨b,off,none⟩∧b<w.heap.size∧w.cell? ⟨b,off+i,none⟩=some (cv i)∧RCode w (cv i) l∧True
theorem RCodesAt.keep{w w':World}{v:Value}{cs:List (List RI)}{cv:Nat→Value}(h:RCodesAt w v cs cv)(hM:Mod noF w w'):RCodesAt w' v cs cv:=by
 obtain ⟨a,c,e,hx⟩:=h;refine ⟨a,c,e,fun i l hi=>?_⟩;obtain ⟨b,off,e1,hb,hc,hr,ho⟩:=hx i l hi;exact ⟨b,off,e1,Nat.lt_of_lt_of_le hb hM.size,hM.cell hc (fun e=>e),hr.keep hM,ho⟩
theorem rows_keep0{w w':World}{v:Value}{ll:List (List Int)}(h:RowsAt0 w v ll)(hM:Mod noF w w'):RowsAt0 w' v ll:=h.keep hM.toBelow
theorem vast_any(n:Int)(iw rw_ cw:Value)(init regs:List (List Int))(codes:List (List RI))(cv:Nat→Value)(w:World)(hI:RowsAt0 w iw init)(hR:RowsAt0 w rw_ regs)(hC:RCodesAt w cw codes cv)
  (li:init.length≤maxLen) (lr:regs.length≤maxLen) (lc:codes.length≤maxLen) (lk:∀l∈codes,l.length≤maxLen) :
  Calls Tryz.prog 9 #[.agg #[.int .i64 n,iw,rw_],cw] w fun e w'=>(∃k:Int,e=.returned (.int .i64 k))∧Mod noF w w':=by
 have HI:=Lib.hid hI;have HR:=Lib.hid hR;have HC:=Lib.hid hC;obtain ⟨ia,ic,rfl,-⟩:=hI;obtain ⟨ra,rc,rfl,-⟩:=hR;obtain ⟨ca,cc,rfl,-⟩:=hC;unfold maxLen at li lr lc lk;have Lk:=Lib.hid lk;clear lk
 go_enter Tryz.func9,Tryz.ntmps9
 go_wp2;obtain ⟨wz,hwz⟩:∃wz,wz=w.alloc (.cells #[.int .i64 n,.slice ia init.length ic,.slice ra regs.length rc] 24):=⟨_,rfl⟩
 have hmz:Mod noF w wz:=by rw[hwz];exact (Mod.refl noF w).alloc _
 have s1:wz.cell? ⟨w.heap.size,1,none⟩=some (.slice ia init.length ic):=by rw[hwz];simp
 have s2:wz.cell? ⟨w.heap.size,2,none⟩=some (.slice ra regs.length rc):=by rw[hwz];simp
 have sb:w.heap.size<wz.heap.size:=by rw[hwz];simp
 rw[←hwz];have Hmz:=Lib.hid hmz;clear hwz hmz
 go_loopw [5,6] (fun v i wr=>∃(k:Nat) (z:Int),k≤init.length∧i=.int .i64 k∧v=.int .i64 z∧Mod noF wz wr) (fun _ i _=>init.length - (intOf i).toNat)
 case atStart=>exact ⟨0,_,Nat.zero_le _,rfl,rfl,Mod.refl _ _⟩
 case round=>
  obtain ⟨k,z,hk,rfl,rfl,hm⟩:=hrel;have q1:=hm.cell s1 (fun e=>e);have qb:w.heap.size<wr.heap.size:=Nat.lt_of_lt_of_le sb hm.size
  by_cases hlt:k<init.length
  ·have hd:decide ((k:Int)<(init.length:Int))=true:=by simp;omega
   have hki:(k:Int)<(init.length:Int):=by omega
   obtain ⟨l,hl⟩:∃l,init[k]?=some l:=⟨_,List.getElem?_eq_getElem hlt⟩;obtain ⟨ia',ic',e',hx⟩:=rows_keep0 HI.out (Hmz.out.trans0 hm);cases e';obtain ⟨b,off,u,rfl,hb,hc,hu,-⟩:=hx k l hl;obtain ⟨ua,uc,rfl,-⟩:=hu.at_;have Hm:=Lib.hid hm;clear hx hu hm hl;go_wp2
   go_roundw
   case rel=>exact ⟨k+1,_,by omega,by go_num,rfl,Hm.out⟩
   case measure=>simp[intOf];omega
  ·have hd:decide ((k:Int)<(init.length:Int))=false:=by simp;omega
   have Hm:=Lib.hid hm;clear hm;have q2:=Hm.out.cell s2 (fun e=>e);obtain ⟨wq,rfl⟩:∃wq:World,wq=wr:=⟨_,rfl⟩;go_wp2
   go_loopw [5,7] (fun v i wr=>∃(k:Nat) (z:Int),k≤regs.length∧i=.int .i64 k∧v=.int .i64 z∧Mod noF wq wr) (fun _ i _=>regs.length - (intOf i).toNat)
   case atStart=>exact ⟨0,_,Nat.zero_le _,rfl,rfl,Mod.refl _ _⟩
   case round=>
    obtain ⟨k,z,hk,rfl,rfl,hm⟩:=hrel;have q1:=hm.cell q2 (fun e=>e);have qb:w.heap.size<wr.heap.size:=Nat.lt_of_lt_of_le qb hm.size
    by_cases hlt:k<regs.length
    ·have hd:decide ((k:Int)<(regs.length:Int))=true:=by simp;omega
     have hki:(k:Int)<(regs.length:Int):=by omega
     obtain ⟨l,hl⟩:∃l,regs[k]?=some l:=⟨_,List.getElem?_eq_getElem hlt⟩;obtain ⟨ia',ic',e',hx⟩:=rows_keep0 HR.out ((Hmz.out.trans0 Hm.out).trans0 hm);cases e';obtain ⟨b,off,u,rfl,hb,hc,hu,-⟩:=hx k l hl;obtain ⟨ua,uc,rfl,-⟩:=hu.at_;have Hm2:=Lib.hid hm;clear hx hu hm hl;go_wp2
     go_roundw
     case rel=>exact ⟨k+1,_,by omega,by go_num,rfl,Hm2.out⟩
     case measure=>simp[intOf];omega
    ·have hd:decide ((k:Int)<(regs.length:Int))=false:=by simp;omega
     have Hm2:=Lib.hid hm;clear hm;obtain ⟨wp,rfl⟩:∃wp:World,wp=wr:=⟨_,rfl⟩;go_wp2
     go_loopw [5,8] (fun v i wr=>∃(k:Nat) (z:Int),k≤codes.length∧i=.int .i64 k∧v=.int .i64 z∧Mod noF wp wr) (fun _ i _=>codes.length - (intOf i).toNat)
     case atStart=>exact ⟨0,_,Nat.zero_le _,rfl,rfl,Mod.refl _ _⟩
     case round=>
      obtain ⟨k,z,hk,rfl,rfl,hm⟩:=hrel
      by_cases hlt:k<codes.length
      ·have hd:decide ((k:Int)<(codes.length:Int))=true:=by simp;omega
       have hki:(k:Int)<(codes.length:Int):=by omega
       obtain ⟨l,hl⟩:∃l,codes[k]?=some l:=⟨_,List.getElem?_eq_getElem hlt⟩;have hll:=Lk.out l (List.mem_of_getElem? hl);obtain ⟨ia',ic',e',hx⟩:=HC.out.keep (((Hmz.out.trans0 Hm.out).trans0 Hm2.out).trans0 hm);cases e';obtain ⟨b,off,rfl,hb,hc,hu,-⟩:=hx k l hl;obtain ⟨wo,rfl⟩:∃wo:World,wo=wr:=⟨_,rfl⟩
       have Hu:=Lib.hid hu;obtain ⟨⟨ua,uc,ec,-⟩,-⟩:=hu;rw[ec]at hc;have Hec:=Lib.hid ec;have Hm3:=Lib.hid hm;clear hx hm hl ec;go_wp2
       go_loopw [5,9] (fun v i wr=>∃(j:Nat) (z:Int),j≤l.length∧i=.int .i64 j∧v=.int .i64 z∧Mod noF wo wr) (fun _ i _=>l.length - (intOf i).toNat)
       case atStart=>exact ⟨0,_,Nat.zero_le _,rfl,rfl,Mod.refl _ _⟩
       case round=>
        obtain ⟨j,z,hj,rfl,rfl,hm⟩:=hrel;have q4:=hm.cell hc (fun e=>e);have q4b:=Nat.lt_of_lt_of_le hb hm.size
        by_cases hlt2:j<l.length
        ·have hd2:decide ((j:Int)<(l.length:Int))=true:=by simp;omega
         have hji:(j:Int)<(l.length:Int):=by omega
         obtain ⟨x,hx⟩:∃x,l[j]?=some x:=⟨_,List.getElem?_eq_getElem hlt2⟩;obtain ⟨⟨ua',uc',e',hy⟩,-⟩:=Hu.out.keep hm;rw[Hec.out]at e';cases e';obtain ⟨b2,off2,rfl,hb2,c0,-,-,-,c4⟩:=hy j x hx;have Hm4:=Lib.hid hm;clear hy hm hx;go_wp2
         go_quiet (fail)
         go_wp2
         go_roundw
         case rel=>exact ⟨j+1,_,by omega,by go_num,rfl,by first|exact Hm4.out.drew|exact Hm4.out|exact Hm4.out.drewN _⟩
         case measure=>simp[intOf];omega
        ·have hd2:decide ((j:Int)<(l.length:Int))=false:=by simp;omega
         have Hm4:=Lib.hid (Hm3.out.trans0 hm);clear hm;go_wp2
         go_roundw
         case rel=>exact ⟨k+1,_,by omega,by go_num,rfl,Hm4.out⟩
         case measure=>simp[intOf];omega
      ·have hd:decide ((k:Int)<(codes.length:Int))=false:=by simp;omega
       have Hm3:=Lib.hid (((Hmz.out.trans0 Hm.out).trans0 Hm2.out).trans0 hm);clear hm
       by_cases h6:(600:Int)<z
       ·have hd6:decide ((600:Int)<z)=true:=by simpa using h6
        go_wp2;go_ret;exact ⟨⟨_,rfl⟩,Hm3.out⟩
       ·have hd6:decide ((600:Int)<z)=false:=by simpa using h6
        go_wp2;go_ret;exact ⟨⟨_,rfl⟩,Hm3.out⟩
end
section
open Go.ChangeShapes Go.WideShapes Go.ChangeAt Go.RowKit Go.Joins Qh Qs
variable {H:Type}{enc:TypeId × Value→H}{W:World}
def intVals(x:Int):List Value:=[.int .i64 x]
theorem Int_read(n:Nat)(cs:List Value)(y:DataW H × List MemPlace)(h:DataW.trod enc Tryz.prog W 0 (fun _=>true) true n 3 cs=some y):∃x:Int,cs=intVals x∧True:=by
 obtain ⟨x,e,_,_⟩:=DataW.trod_int Tryz.underlying3 h;exact ⟨x,e,trivial⟩
theorem intRow{v:Value}{l:List Int}(h:RowsAt intVals 1 W v l):IntsAt W v l:=by
 obtain ⟨a,c,e,hl,hc,hn,hx⟩:=h;refine ⟨a,c,e,by omega,fun i x hi=>?_⟩;obtain ⟨b,off,e1,hb,hcell⟩:=hx i x hi;refine ⟨b,off,e1,hb,?_⟩;have:=hcell 0 _ rfl
 rwa [show off+i*1+0=off+i by omega]at this
def IntsOk(W:World)(u:Value):Prop:=∃l,IntsAt W u l
theorem Ints_read(n:Nat)(cs:List Value)(y:DataW H × List MemPlace)(h:DataW.trod enc Tryz.prog W 0 (fun _=>true) true n 26 cs=some y):∃u:Value,cs=[u]∧IntsOk W u:=by
 rcases Go.Deep.open_slice Tryz.underlying26 h with ⟨hcs,_⟩|⟨A,l,c,m,n',D,Pl,hcs,_,hl,hm,hmm,_,hel⟩
 ·exact ⟨.slice none 0 0,hcs,[],none,0,rfl,by simp,fun i x h=>by simp at h⟩
 ·subst hcs;obtain ⟨z,hz,_⟩:=rowsAt_of (k:=1) (vals:=intVals) (good:=fun _=>True) (a:=some A) (len:=l) (cap:=c) (by decide) Tryz.underlying26 (by kernel_rfl) Int_read (⟨n,h⟩:DataW.Trod enc Tryz.prog W 0 (fun _=>true) true 26 (.slice (some A) l c) y.1 y.2);exact ⟨_,rfl,z,intRow hz⟩
def IntRows(W:World)(v:Value)(z:List (List Int)):Prop:=RowsAt0 W v z∧z.length≤maxLen
theorem rows_pick{α : Type}{R:Value→α→Prop}(d : α)(us:List Value)(hg:∀u∈us,∃l,R u l):∃f:Value→α,∀u∈us,R u (f u):=by
 have hch:∀u,∃z : α,u∈us→R u z:=fun u=>by
  by_cases hu:u∈us
  ·obtain ⟨z,hz⟩:=hg u hu;exact ⟨z,fun _=>hz⟩
  ·exact ⟨d,fun h=>absurd h hu⟩
 exact ⟨fun u=>Classical.choose (hch u),fun u hu=>Classical.choose_spec (hch u) hu⟩
theorem intRows_of{a:Option Addr}{len cap:Nat}{d:DataW H}{p:List MemPlace}(h:DataW.Trod enc Tryz.prog W 0 (fun _=>true) true 22 (.slice a len cap) d p):∃z,IntRows W (.slice a len cap) z:=by
 obtain ⟨us,⟨a',c',e',hlc,hcm,hn,hx⟩,hg⟩:=rowsAt_of (k:=1) (vals:=fun u:Value=>[u]) (good:=IntsOk W) (by decide) Tryz.underlying22 (by kernel_rfl) Ints_read h;cases e';obtain ⟨f,hf⟩:=rows_pick (R:=fun u l=>IntsAt W u l) [] us hg
 refine ⟨us.map f,⟨a,cap,by rw[List.length_map],fun i l hi=>?_⟩,by rw[List.length_map];omega⟩;rw[List.getElem?_map]at hi;obtain ⟨u,hu,rfl⟩:=Option.map_eq_some_iff.1 hi;obtain ⟨b,off,e,hb,hc⟩:=hx i u hu;have hcu:=hc 0 u rfl;rw[show off+i*1+0=off+i by omega]at hcu
 exact ⟨b,off,u,e,hb,hcu,hf u (List.mem_of_getElem? hu),trivial⟩
def riVals(x:RI):List Value:=[.string x.op,.int .i64 x.A,.int .i64 x.B,.int .i64 x.C,.string x.to]
theorem len5{l:List Value}(h:l.length=5):∃c0 c1 c2 c3 c4:Value,l=[c0,c1,c2,c3,c4]:=by
 match l,h with
 |[c0,c1,c2,c3,c4],_=>exact ⟨c0,c1,c2,c3,c4,rfl⟩
theorem Instr_read(n:Nat)(cs:List Value)(y:DataW H × List MemPlace)(h:DataW.trod enc Tryz.prog W 0 (fun _=>true) true n 73 cs=some y):∃x:RI,cs=riVals x∧x.to.size≤maxLen:=by
 obtain ⟨xs,n',rfl,_,hlen,hxl,hf⟩:=DataW.trod_struct Tryz.underlying73 h;rw[show Tryz.prog.cellsOf 73 = 5 by kernel_rfl]at hlen
 have k1 : Tryz.prog.cellsOf 3 = 1:=by kernel_rfl
 have k9 : Tryz.prog.cellsOf 9 = 1:=by kernel_rfl
 obtain ⟨c0,c1,c2,c3,c4,rfl⟩:=len5 hlen;have h0 := hf 0 ⟨"Op", 9, 0, false, "", "", 0⟩ rfl;rw[List.getElem?_eq_getElem (show 0<xs.length by rw[hxl];decide)]at h0;obtain ⟨s0,e0,_,o0⟩:=DataW.trod_string Tryz.underlying9 h0
 simp only[k9,List.drop_succ_cons,List.drop_zero,List.take_succ_cons,List.take_zero,List.cons.injEq,and_true]at e0;subst e0;have h1 := hf 1 ⟨"A", 3, 1, false, "", "", 16⟩ rfl;rw[List.getElem?_eq_getElem (show 1<xs.length by rw[hxl];decide)]at h1
 obtain ⟨s1,e1,_,o1⟩:=DataW.trod_int Tryz.underlying3 h1;simp only[k1,List.drop_succ_cons,List.drop_zero,List.take_succ_cons,List.take_zero,List.cons.injEq,and_true]at e1;subst e1;have h2 := hf 2 ⟨"B", 3, 2, false, "", "", 24⟩ rfl
 rw[List.getElem?_eq_getElem (show 2<xs.length by rw[hxl];decide)]at h2;obtain ⟨s2,e2,_,o2⟩:=DataW.trod_int Tryz.underlying3 h2;simp only[k1,List.drop_succ_cons,List.drop_zero,List.take_succ_cons,List.take_zero,List.cons.injEq,and_true]at e2;subst e2
 have h3 := hf 3 ⟨"C", 3, 3, false, "", "", 32⟩ rfl;rw[List.getElem?_eq_getElem (show 3<xs.length by rw[hxl];decide)]at h3;obtain ⟨s3,e3,_,o3⟩:=DataW.trod_int Tryz.underlying3 h3
 simp only[k1,List.drop_succ_cons,List.drop_zero,List.take_succ_cons,List.take_zero,List.cons.injEq,and_true]at e3;subst e3;have h4 := hf 4 ⟨"To", 9, 4, false, "", "", 40⟩ rfl;rw[List.getElem?_eq_getElem (show 4<xs.length by rw[hxl];decide)]at h4
 obtain ⟨s4,e4,_,o4⟩:=DataW.trod_string Tryz.underlying9 h4;simp only[k9,List.drop_succ_cons,List.drop_zero,List.take_succ_cons,List.take_zero,List.cons.injEq,and_true]at e4;subst e4;exact ⟨⟨s0,s1,s2,s3,s4⟩,rfl,o4⟩
def CodeIn(W:World)(u:Value)(l:List RI):Prop:=RCode W u l∧l.length≤maxLen∧∃a n k,u=.slice a n k∧k≤maxLen
theorem Code_read(n:Nat)(cs:List Value)(y:DataW H × List MemPlace)(h:DataW.trod enc Tryz.prog W 0 (fun _=>true) true n 46 cs=some y):∃u:Value,cs=[u]∧∃l,CodeIn W u l:=by
 rcases Go.Deep.open_slice Tryz.underlying46 h with ⟨hcs,_⟩|⟨A,l,c,m,n',D,Pl,hcs,_,hl,hm,hmm,_,hel⟩
 ·exact ⟨.slice none 0 0,hcs,[],⟨⟨none,0,rfl,fun i x h=>by simp at h⟩,fun x h=>by simp at h⟩,by simp,_,_,_,rfl,Nat.zero_le _⟩
 ·subst hcs
  obtain ⟨z,⟨a',c',e',hlc,hcm,hn,hx⟩,hg⟩:=rowsAt_of (k:=5) (vals:=riVals) (good:=fun x:RI=>x.to.size≤maxLen) (a:=some A) (len:=l) (cap:=c) (by decide) Tryz.underlying46 (by kernel_rfl) Instr_read (⟨n,h⟩:DataW.Trod enc Tryz.prog W 0 (fun _=>true) true 46 (.slice (some A) l c) y.1 y.2)
  cases e';refine ⟨_,rfl,z,⟨⟨_,_,rfl,fun i x hi=>?_⟩,hg⟩,by omega,_,_,_,rfl,hcm⟩;obtain ⟨b,off,e,hb,hc⟩:=hx i x hi;exact ⟨b,off,e,hb,hc 0 _ rfl,hc 1 _ rfl,hc 2 _ rfl,hc 3 _ rfl,hc 4 _ rfl⟩
def InsRows(W:World)(v:Value)(z:List (List RI))(cv:Nat→Value):Prop:=
 RCodesAt W v z cv∧z.length≤maxLen∧(∀l∈z,l.length≤maxLen)∧∀(i:Nat) l,z[i]?=some l→∃a n k,cv i=.slice a n k∧k≤maxLen
theorem insRows_of{a:Option Addr}{len cap:Nat}{d:DataW H}{p:List MemPlace}(h:DataW.Trod enc Tryz.prog W 0 (fun _=>true) true 25 (.slice a len cap) d p):∃z cv,InsRows W (.slice a len cap) z cv:=by
 obtain ⟨us,⟨a',c',e',hlc,hcm,hn,hx⟩,hg⟩:=rowsAt_of (k:=1) (vals:=fun u:Value=>[u]) (good:=fun u=>∃l,CodeIn W u l) (by decide) Tryz.underlying25 (by kernel_rfl) Code_read h;cases e';obtain ⟨f,hf⟩:=rows_pick (R:=fun u l=>CodeIn W u l) [] us hg
 have hget:∀(i:Nat) l,(us.map f)[i]?=some l→∃u,us[i]?=some u∧us.getD i (.slice none 0 0)=u∧l=f u:=fun i l hi=>by
  rw[List.getElem?_map]at hi;obtain ⟨u,hu,rfl⟩:=Option.map_eq_some_iff.1 hi;exact ⟨u,hu,by simp[List.getD,hu],rfl⟩
 refine ⟨us.map f,fun i=>us.getD i (.slice none 0 0),⟨a,cap,by rw[List.length_map],fun i l hi=>?_⟩,by rw[List.length_map];omega,fun l hl=>?_,fun i l hi=>?_⟩
 ·obtain ⟨u,hu,e1,rfl⟩:=hget i l hi;obtain ⟨b,off,e,hb,hc⟩:=hx i u hu;have hcu:=hc 0 u rfl;rw[show off+i*1+0=off+i by omega]at hcu;refine ⟨b,off,e,hb,?_,?_,trivial⟩
  ·show W.cell? _=some (us.getD i (.slice none 0 0));rw[e1];exact hcu
  ·show RCode W (us.getD i (.slice none 0 0)) _;rw[e1];exact (hf u (List.mem_of_getElem? hu)).1
 ·obtain ⟨u,hu,rfl⟩:=List.mem_map.1 hl;exact (hf u hu).2.1
 ·obtain ⟨u,hu,e1,rfl⟩:=hget i l hi;show ∃a n k,us.getD i (.slice none 0 0)=.slice a n k∧k≤maxLen;rw[e1];exact (hf u (List.mem_of_getElem? hu)).2.2
def StartIn(W:World)(n:Int)(iw rw_:Value)(zi zr:List (List Int)):Prop:=IntRows W iw zi∧IntRows W rw_ zr
theorem intRows_cell{m:Nat}{u:Value}{y:DataW H × List MemPlace}(h:DataW.trod enc Tryz.prog W 0 (fun _=>true) true m 22 [u]=some y):∃z,IntRows W u z:=by
 rcases Go.Deep.open_slice Tryz.underlying22 h with ⟨hcs,_⟩|⟨A,l,c,m',n',D,Pl,hcs,_,hl,hm,hmm,_,hel⟩
 ·obtain rfl:u=.slice none 0 0:=by simpa using hcs
  exact ⟨[],⟨none,0,rfl,fun i l h=>by simp at h⟩,by simp⟩
 ·obtain rfl:u=.slice (some A) l c:=by simpa using hcs
  exact intRows_of (⟨m,h⟩:DataW.Trod enc Tryz.prog W 0 (fun _=>true) true 22 (.slice (some A) l c) y.1 y.2)
theorem start_open{r:Reach}{b0:Nat}{v:Value}{d:DataW H}{p:List MemPlace}(hv:Value.okWide Tryz.prog W r b0 24 v)(h:DataW.Trod enc Tryz.prog W 0 (fun _=>true) true 24 v d p) :
  ∃n iw rw_ zi zr,v=.agg #[.int .i64 n,iw,rw_]∧StartIn W n iw rw_ zi zr:=by
 obtain ⟨c0,c1,c2,y0,y1,y2,m,rfl,-,-,h0,h1,h2⟩:=open_agg3 Tryz.underlying24 (by kernel_rfl) (show Tryz.prog.cellsOf 24 = 3 by kernel_rfl) hv h;obtain ⟨n,e0,_,_⟩:=DataW.trod_int Tryz.underlying3 h0;obtain ⟨zi,wi⟩:=intRows_cell h1
 obtain ⟨zr,wr⟩:=intRows_cell h2
 have e:c0=.int .i64 n:=by simpa using e0
 subst e;exact ⟨n,c1,c2,zi,zr,rfl,wi,wr⟩
end
end Go.Proofs.YtciaficoeajeaaaGreatDoor
