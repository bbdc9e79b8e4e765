/- Texts that belong together, joined. -/
import Derived.Test.YtciaficoeajeaaaGreatDoorWFCodeFine
set_option linter.unusedVariables false
set_option linter.unusedSimpArgs false
set_option linter.unusedSectionVars false
section
namespace Qh
open Go Go.RowKit Qs
structure RI where
 op:ByteArray
 A:Int
 B:Int
 C:Int
 to:ByteArray
def rawI(x:Instr):RI:=⟨opStr x.op,x.A,x.B,x.C,⟨x.to.toArray⟩⟩
def opIx(s:ByteArray):Option Nat:=(List.range 21).find? fun k=>decide (opStr k=s)
theorem opIx_some{s:ByteArray}{k:Nat}(h:opIx s=some k):k<21∧opStr k=s:=
 ⟨List.mem_range.1 (List.mem_of_find?_eq_some h),by simpa using List.find?_some h⟩
theorem opIx_none{s:ByteArray}(h:opIx s=none):∀k,k<21→opStr k≠s:=fun k hk=>by
 have:=List.find?_eq_none.1 h k (List.mem_range.2 hk)
 simpa using this
theorem opStr_inj:∀i,i<21→∀j,j<21→opStr i=opStr j→i=j:=by decide +kernel
theorem opIx_str{k:Nat}(hk:k<21):opIx (opStr k)=some k:=by
 cases h:opIx (opStr k)with
 |none=>exact absurd rfl (opIx_none h k hk)
 |some j=>
  obtain ⟨h1,h2⟩:=opIx_some h;rw[opStr_inj j h1 k hk h2]
def nK:Nat→List UInt8
 |0=>[114,118]
 |1=>[114,114]
 |2=>[114,114,114]
 |3=>[114,114,114]
 |4=>[114,114,114]
 |5=>[114,114,114]
 |6=>[114,114,119]
 |7=>[114,114,119]
 |8=>[114,114,119]
 |9=>[114,115,119]
 |10=>[114]
 |11=>[114]
 |14=>[114]
 |15=>[114,114]
 |18=>[114]
 |19=>[114]
 |_=>[]
def lK:Nat→Bool
 |14=>true
 |15=>true
 |16=>true
 |17=>true
 |_=>false
def fitB(c:UInt8)(n:Int):Bool:=if c=114 then regB n 8 else if c=115 then regB n 7 else if c=119 then regB n 4 else isWord n
def n0(n:Int):Bool:=!decide (n=0)
def restB(k:Nat)(A B C:Int):Bool:=([A,B,C].drop (nK k).length).any n0
def badB(k:Nat)(A B C:Int):Bool:=((nK k).zip [A,B,C]).any fun p=>!fitB p.1 p.2
def oneE(x:RI):Int:=
 match opIx x.op with
 |none=>3
 |some k=>if !lK k && !x.to.toList.isEmpty then 3 else if restB k x.A x.B x.C then 3 else if badB k x.A x.B x.C then 2 else if lK k && !nameB x.to.toList then 4 else 0
def labR(to:ByteArray):List RI→Nat→Option Nat
 |[],_=>none
 |x :: l,k=>if x.op=opStr 17∧x.to=to then some k else labR to l (k+1)
def chkI(l:List RI)(i:Nat)(x:RI):Int:=
 if oneE x≠0 then oneE x else if x.op=opStr 17∧labR x.to l 0≠some i then 4 else if x.to.toList≠[]∧labR x.to l 0=none then 5 else 0
def chkF(l:List RI):List RI→Nat→Int × Int
 |[],_=>(0,-1)
 |x :: r,i=>if chkI l i x≠0 then (chkI l i x,(i:Int))else chkF l r (i+1)
def chkR(l:List RI):Int × Int:=if 2000<l.length then (2,-1)else chkF l l 0
theorem chkF_zero{l:List RI}:∀ {r:List RI} {s:Nat},(chkF l r s).1=0→∀(i:Nat) x,r[i]?=some x→chkI l (s+i) x=0
 |[],_,_,_,_,hx=>by simp at hx
 |y :: r,s,h,i,x,hx=>by
  unfold chkF at h
  by_cases e:chkI l s y≠0
  ·rw[if_pos e]at h;exact absurd h e
  ·rw[if_neg e]at h
   cases i with
   |zero=>cases hx;exact Decidable.not_not.1 e
   |succ i=>
    have:=chkF_zero h i x (by simpa using hx)
    rwa [show s+1+i=s+(i+1) by omega]at this
theorem toArr{b:ByteArray}:(⟨b.toList.toArray⟩:ByteArray)=b:=by
 rw[ByteArray.toList_eq]
theorem one_fine{x:RI}(h:oneE x=0):∃y:Instr,rawI y=x∧insFine y=true∧y.op<21:=by
 unfold oneE at h
 cases hk:opIx x.op with
 |none=>rw[hk]at h;simp at h
 |some k=>
  rw[hk]at h;obtain ⟨k1,k2⟩:=opIx_some hk;simp only at h
  split at h
  ·simp at h
  ·rename_i e1
   split at h
   ·simp at h
   ·rename_i e2
    split at h
    ·simp at h
    ·rename_i e3
     split at h
     ·simp at h
     ·rename_i e4
      obtain ⟨op,A,B,C,to⟩:=x;simp only at *;refine ⟨⟨k,A,B,C,to.toList⟩,?_,?_,k1⟩
      ·unfold rawI;simp only[k2,toArr]
      ·clear hk k2
       revert e1 e2 e3 e4
       generalize hT:to.toList=T;clear hT
       rcases (by omega:k=0∨k=1∨k=2∨k=3∨k=4∨k=5∨k=6∨k=7∨k=8∨k=9∨k=10∨k=11∨k=12∨k=13∨k=14∨k=15∨k=16∨k=17∨k=18∨k=19∨k=20)with rfl|rfl|rfl|rfl|rfl|rfl|rfl|rfl|rfl|rfl|rfl|rfl|rfl|rfl|rfl|rfl|rfl|rfl|rfl|rfl|rfl
       all_goals
        simp[lK,restB,badB,nK,fitB,n0,insFine,z0,isWord,W32,regB]
        try (intros;simp_all;done)
        try (intros;simp_all;omega)
theorem raw_mem{l:List RI}(h:∀x∈l,∃y:Instr,rawI y=x∧insFine y=true∧y.op<21):∃c:List Instr,c.map rawI=l∧∀y∈c,insFine y=true∧y.op<21:=by
 induction l with
 |nil=>exact ⟨[],rfl,fun y hy=>by cases hy⟩
 |cons x l ih=>
  obtain ⟨c,h1,h2⟩:=ih fun x hx=>h x (List.mem_cons_of_mem _ hx);obtain ⟨y,h3,h4⟩:=h x (by simp);refine ⟨y :: c,by simp[h1,h3],fun z hz=>?_⟩
  rcases List.mem_cons.1 hz with rfl|hz
  ·exact h4
  ·exact h2 z hz
theorem lab_raw(to:List UInt8):∀(c:List Instr) (s:Nat),(∀y∈c,y.op<21)→labR ⟨to.toArray⟩ (c.map rawI) s=labelAt to c s
 |[],s,_=>rfl
 |y :: c,s,h=>by
  have ih:=lab_raw to c (s+1) fun z hz=>h z (List.mem_cons_of_mem _ hz);have hy:=h y (by simp);show (if opStr y.op=opStr 17∧(⟨y.to.toArray⟩:ByteArray)=⟨to.toArray⟩then some s else labR ⟨to.toArray⟩ (c.map rawI) (s+1))=_
  have e1:(opStr y.op=opStr 17)=(y.op=17):=propext ⟨fun e=>opStr_inj _ hy 17 (by decide) e,fun e=>by rw[e]⟩
  have e2:((⟨y.to.toArray⟩:ByteArray)=⟨to.toArray⟩)=(y.to=to):=propext ⟨fun e=>by
   have:=congrArg (fun b:ByteArray=>b.data.toList) e
   simpa using this,fun e=>by rw[e]⟩
  simp only[e1,e2];rw[ih];rfl
theorem chk_fine{l:List RI}(h:(chkR l).1=0):∃c:List Instr,c.map rawI=l∧CodeFine c:=by
 unfold chkR at h
 by_cases hl:2000<l.length
 ·rw[if_pos hl]at h;simp at h
 ·rw[if_neg hl]at h;have hi:=chkF_zero h;simp only[Nat.zero_add]at hi
  have hone:∀x∈l,oneE x=0:=fun x hx=>by
   obtain ⟨i,hix⟩:=List.getElem?_of_mem hx;have:=hi i x hix;unfold chkI at this
   by_cases e:oneE x≠0
   ·rw[if_pos e]at this;exact absurd this e
   ·exact Decidable.not_not.1 e
  obtain ⟨c,hc,hf⟩:=raw_mem fun x hx=>one_fine (hone x hx);have hop:∀y∈c,y.op<21:=fun y hy=>(hf y hy).2
  have hcl:c.length=l.length:=by rw[←hc,List.length_map]
  refine ⟨c,hc,by omega,fun y hy=>(hf y hy).1,fun i y hy h17=>?_,fun y hy hne=>?_⟩
  ·have hx:=hi i (rawI y) (by rw[←hc,List.getElem?_map,hy];rfl);unfold chkI at hx;rw[if_neg (by rw[hone _ (by rw[←hc];exact List.mem_map_of_mem (List.mem_of_getElem? hy))];simp)]at hx
   by_cases e:(rawI y).op=opStr 17∧labR (rawI y).to l 0≠some i
   ·rw[if_pos e]at hx;simp at hx
   ·have e2:¬labR (rawI y).to l 0≠some i:=fun g=>e ⟨by show opStr y.op=_;rw[h17],g⟩;have:=Decidable.not_not.1 e2;rw[←hc]at this;rw[←lab_raw y.to c 0 hop];exact this
  ·obtain ⟨i,hix⟩:=List.getElem?_of_mem hy;have hx:=hi i (rawI y) (by rw[←hc,List.getElem?_map,hix];rfl);unfold chkI at hx;rw[if_neg (by rw[hone _ (by rw[←hc];exact List.mem_map_of_mem hy)];simp)]at hx
   by_cases e:(rawI y).op=opStr 17∧labR (rawI y).to l 0≠some i
   ·rw[if_pos e]at hx;simp at hx
   ·rw[if_neg e]at hx
    by_cases g:(rawI y).to.toList≠[]∧labR (rawI y).to l 0=none
    ·rw[if_pos g]at hx;simp at hx
    ·have:¬labR (rawI y).to l 0=none:=fun e3=>g ⟨by
      show (⟨y.to.toArray⟩:ByteArray).toList≠[]
      rw[ByteArray.toList_eq];exact hne,e3⟩
     rw[←lab_raw y.to c 0 hop];rw[←hc]at this
     cases h3:labR (⟨y.to.toArray⟩:ByteArray) (c.map rawI) 0 with
     |none=>exact absurd h3 this
     |some k=>rfl
end Qh
end
section
namespace Qh
open Go Go.RowKit Qs
theorem fine_lt{y:Instr}(h:insFine y=true):y.op<21:=by
 by_cases h21:y.op<21
 ·exact h21
 ·exfalso;unfold insFine at h
  split at h <;> first|omega|cases h
theorem fine_one{y:Instr}(h:insFine y=true):oneE (rawI y)=0:=by
 have h21:=fine_lt h;obtain ⟨k,A,B,C,to⟩:=y
 have e:(rawI ⟨k,A,B,C,to⟩).to.toList=to:=by show (⟨to.toArray⟩:ByteArray).toList=to;rw[ByteArray.toList_eq]
 unfold oneE;rw[show opIx (rawI ⟨k,A,B,C,to⟩).op=some k from opIx_str h21];simp only[e];have eA:(rawI ⟨k,A,B,C,to⟩).A=A:=rfl;have eB:(rawI ⟨k,A,B,C,to⟩).B=B:=rfl;have eC:(rawI ⟨k,A,B,C,to⟩).C=C:=rfl;simp only[eA,eB,eC];clear e eA eB eC
 revert h
 rcases (by simp only at h21;omega:k=0∨k=1∨k=2∨k=3∨k=4∨k=5∨k=6∨k=7∨k=8∨k=9∨k=10∨k=11∨k=12∨k=13∨k=14∨k=15∨k=16∨k=17∨k=18∨k=19∨k=20)with rfl|rfl|rfl|rfl|rfl|rfl|rfl|rfl|rfl|rfl|rfl|rfl|rfl|rfl|rfl|rfl|rfl|rfl|rfl|rfl|rfl
 all_goals
  simp[lK,restB,badB,nK,fitB,n0,insFine,z0,isWord,W32,regB]
  try (intros;simp_all;done)
  try (intros;simp_all;omega)
theorem chkF_fine{l:List RI}:∀ {r:List RI} {s:Nat},(∀(i:Nat) x,r[i]?=some x→chkI l (s+i) x=0)→(chkF l r s).1=0
 |[],_,_=>rfl
 |y :: r,s,h=>by
  unfold chkF;rw[if_neg (by have:=h 0 y rfl;rw[Nat.add_zero]at this;rw[this];simp)]
  exact chkF_fine fun i x hx=>by
   have:=h (i+1) x (by simpa using hx)
   rwa [show s+(i+1)=s+1+i by omega]at this
theorem fine_chk{c:List Instr}(h:CodeFine c):(chkR (c.map rawI)).1=0:=by
 unfold chkR;rw[if_neg (by rw[List.length_map];have:=h.len;omega)];have hop:∀y∈c,y.op<21:=fun y hy=>fine_lt (h.ins y hy);refine chkF_fine fun i x hx=>?_;rw[Nat.zero_add];rw[List.getElem?_map]at hx;obtain ⟨y,hy,rfl⟩:=Option.map_eq_some_iff.1 hx;have hm:=List.mem_of_getElem? hy;unfold chkI
 rw[if_neg (by rw[fine_one (h.ins y hm)];simp)];have hl:labR (rawI y).to (c.map rawI) 0=labelAt y.to c 0:=lab_raw y.to c 0 hop;rw[hl]
 rw[if_neg (fun e=>by
  have e17:y.op=17:=opStr_inj _ (hop y hm) 17 (by decide) e.1
  exact e.2 (h.set i y hy e17))]
 rw[if_neg (fun e=>by
  have hne:y.to≠[]:=by
   have:=e.1;intro e2;apply this;show (⟨y.to.toArray⟩:ByteArray).toList=[];rw[ByteArray.toList_eq];exact e2
  have:=h.lab y hm hne
  rw[e.2]at this;cases this)]
end Qh
end
