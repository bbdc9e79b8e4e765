/- Texts that belong together, joined. -/
import Derived.Test.YtciaficoeajeaaaGreatDoorWFMach
import Derived.IntWalk
import Derived.Deep.RegionHeld
import Derived.Test.YtciaficoeajeaaaGreatDoorWFm1
import Derived.Test.YtciaficoeajeaaaGreatDoorWFm2
import Derived.Laws.CopyRow
import Derived.Laws.CopyOwn
import Derived.Deep.RegionLaw
set_option linter.unusedVariables false
set_option linter.unusedSimpArgs false
set_option linter.unusedSectionVars false
section
namespace Qh
open Go Go.RowKit Qs
variable {τ : Ty}{K:Nat→Bool}{w w':World}{L L':Lay}{m m':M}{N:Int}
theorem OkM.setWord(om:OkM N m)(i j:Nat){v:Int}(hv:isWord v=true):OkM N {m with cells:=Qs.setWord m.cells i j v}:=by
 refine ⟨by rw[setWord_length];exact om.cells1,by rw[setWord_length];exact om.cells,?_,?_,om.waits,om.wlen,?_,om.N0⟩
 ·intro k c hc;rw[setWord_get]at hc;obtain ⟨c0,h0,rfl⟩:=Option.map_eq_some_iff.1 hc;have h:=om.words k c0 h0
  by_cases e:i=k
  ·rw[if_pos e];refine ⟨by simpa using h.1,fun u hu=>?_⟩
   rcases List.mem_or_eq_of_mem_set hu with h1|rfl
   ·exact h.2 u h1
   ·exact hv
  ·rw[if_neg e];exact h
 ·intro k c hc;rw[setWord_get]at hc;obtain ⟨c0,h0,rfl⟩:=Option.map_eq_some_iff.1 hc;have h:=om.times k c0 h0
  by_cases e:i=k
  ·rw[if_pos e];exact h
  ·rw[if_neg e];exact h
 ·intro t l hl x hx;show _∧_∧_∧_∧x.c<((Qs.setWord m.cells i j v).length:Int)∧_;rw[setWord_length];exact om.wval t l hl x hx
end Qh
end
section
namespace Qh
open Go Go.RowKit Qs
variable {τ : Ty}{w w':World}{L L':Lay}{m m':M}{N:Int}
theorem setPc_T{t:Nat}{h:Thr}(hh:m.T[t]?=some h)(p:Nat):(m.setPc t p).T[t]?=some {h with pc:=p}:=by
 have hlt:t<m.T.length:=(List.getElem?_eq_some_iff.1 hh).1;unfold M.setPc;rw[modify_get _ hh];simp[hlt]
theorem isWord_of{n:Int}(h0:0≤n)(h1:n<4294967296):isWord n=true:=by simp[isWord,W32,h0,h1]
theorem of_isWord{n:Int}(h:isWord n=true):0≤n∧n<4294967296:=by simpa[isWord,W32]using h
theorem word_and{a b:Int}(ha:isWord a=true)(hb:isWord b=true):isWord ((a.toNat &&& b.toNat:Nat):Int)=true:=by
 have h:=of_isWord ha;have:a.toNat &&& b.toNat≤a.toNat:=Nat.and_le_left;exact isWord_of (by omega) (by omega)
theorem word_xor{a b:Int}(ha:isWord a=true)(hb:isWord b=true):isWord ((a.toNat ^^^ b.toNat:Nat):Int)=true:=by
 have h1:=of_isWord ha;have h2:=of_isWord hb;have:a.toNat ^^^ b.toNat<2 ^ 32:=Nat.xor_lt_two_pow (by omega) (by omega);exact isWord_of (by omega) (by omega)
def needM(m:M)(t p:Nat)(v:Int):M:=if v=0 then (m.setPc t p).fault else m.setPc t p
theorem labelAt_lt(to:List UInt8):∀(l:List Instr) (k i:Nat),labelAt to l k=some i→k≤i∧i<k+l.length
 |[],_,_,h=>by simp[labelAt]at h
 |x :: l,k,i,h=>by
  simp only[labelAt]at h
  split at h
  ·cases h;simp
  ·have:=labelAt_lt to l (k+1) i h;simp only[List.length_cons];omega
theorem setReg_setReg(m:M)(t:Nat)(a u v:Int):(m.setReg t a u).setReg t a v=m.setReg t a v:=by
 unfold M.setReg
 congr 1
 apply List.ext_getElem?;intro i;simp only[List.getElem?_modify]
 cases m.T[i]? with
 |none=>simp
 |some x=>by_cases e:t=i <;> simp[e]
theorem setReg_T{t:Nat}{h:Thr}(hh:m.T[t]?=some h)(a v:Int):(m.setReg t a v).T[t]?=some {h with regs:=h.regs.set a.toNat v}:=by
 have hlt:t<m.T.length:=(List.getElem?_eq_some_iff.1 hh).1;unfold M.setReg;rw[modify_get _ hh];simp[hlt]
theorem getWord_word(om:OkM N m)(c w:Nat):isWord (getWord m.cells c w)=true:=by
 unfold getWord
 rcases h:m.cells[c]? with _|x
 ·rfl
 ·have:=(om.words c x h).2;simp only[Option.map_some,Option.getD_some,List.getD]
  rcases h2:x.words[w]? with _|v
  ·rfl
  ·exact this v (List.mem_of_getElem? h2)
theorem look_word_list(c g w:Int):∀(l:List Wt) (v:Int),(∀x∈l,isWord x.v=true)→isWord v=true→isWord (Qs.look l c g w v)=true
 |[],_,_,hv=>hv
 |x :: r,v,hl,hv=>by
  show isWord (Qs.look r c g w (if x.c=c∧x.g=g∧x.w=w then x.v else v))=true;refine look_word_list c g w r _ (fun y hy=>hl y (List.mem_cons_of_mem _ hy)) ?_
  split
  ·exact hl x (List.mem_cons_self ..)
  ·exact hv
theorem look_word(om:OkM N m)(t:Nat)(c g w:Int)(k j:Nat):isWord (Qs.look (m.waitsOf t) c g w (getWord m.cells k j))=true:=by
 refine look_word_list c g w _ _ ?_ (getWord_word om k j);intro x hx;unfold M.waitsOf List.getD at hx
 rcases h:m.waits[t]? with _|l
 ·rw[h]at hx;cases hx
 ·rw[h]at hx;exact (om.wval t l h x hx).1
def casM(m:M)(t b k j:Nat)(x y:Int):M:=(if getWord m.cells k j=x then ({m with cells:=Qs.setWord m.cells k j y}:M)else m).setReg t b (getWord m.cells k j)
end Qh
end
section
namespace Qh
open Go Go.RowKit Qs
variable {m:M}{t:Nat}{h:Thr}
theorem thr_of(hh:m.T[t]?=some h):m.thr t=h:=by simp[M.thr,List.getD,hh]
theorem thr_setPc(hh:m.T[t]?=some h)(p:Nat):(m.setPc t p).thr t = {h with pc:=p}:=thr_of (setPc_T hh p)
theorem step_eq(hh:m.T[t]?=some h){x:Instr}(hx:h.code[h.pc]?=some x)(h20:x.op≠20):m.step t=((m.setPc t (h.pc+1)).exec t x,0):=by
 unfold M.step;rw[thr_of hh,hx];simp[h20]
theorem step_stop(hh:m.T[t]?=some h){x:Instr}(hx:h.code[h.pc]?=some x)(h20:x.op=20):m.step t=(m,9):=by
 unfold M.step;rw[thr_of hh,hx];simp[h20]
theorem step_end(hh:m.T[t]?=some h)(hx:h.code[h.pc]?=none):m.step t=(m,9):=by
 unfold M.step;rw[thr_of hh,hx]
theorem jump_eq(hh:m.T[t]?=some h)(p:Nat){to:List UInt8}{i:Nat}(hi:labelAt to h.code 0=some i):(m.setPc t p).jump t to=(m.setPc t p).setPc t i:=by
 unfold M.jump;rw[thr_setPc hh p];simp[hi]
end Qh
end
section
namespace Qh
open Go Go.RowKit Qs
variable {τ : Ty}{w w':World}{L L':Lay}{m m':M}{N:Int}
def putM(m:M)(t:Nat)(x:Wt):M:={m with waits:=m.waits.modify t fun l=>l++[x]}
theorem hereIn_ge{l:List Cell}{c g:Int}(h:hereIn l c g=true):0≤c∧c<l.length∧∃x,l[c.toNat]?=some x∧x.here=true∧g=x.times - 1:=by
 unfold hereIn cellAt at h
 by_cases hc:c<0
 ·simp[hc]at h
 ·rw[if_neg hc]at h
  cases hx:l[c.toNat]? with
  |none=>simp[hx]at h
  |some x=>
   rw[hx]at h;simp only[Bool.and_eq_true,decide_eq_true_eq]at h;have:=(List.getElem?_eq_some_iff.1 hx).1;exact ⟨by omega,by omega,x,rfl,h.1,h.2⟩
theorem refOf_ge{n c g:Int}(h:refOf n=some (c,g)):0≤g:=by
 unfold refOf at h
 split at h
 ·cases h
 ·split at h
  ·rename_i h0 hw
   have hb:0≤n∧n<4294967296:=by simpa[isWord,W32]using hw
   have e:c=(n - 1) % 64∧g=(n - 1)/64:=by
    have:=Option.some.inj h;exact ⟨(congrArg Prod.fst this).symm,(congrArg Prod.snd this).symm⟩
   rw[e.2];omega
  ·cases h
theorem names_ok_wt(om:OkM N m){n c g C v:Int}(h:m.names n=some (c,g))(hC:0≤C∧C<4)(hv:isWord v=true) :
  isWord v=true∧0≤C∧C<4∧0≤c∧c<m.cells.length∧0≤g∧g≤N:=by
 unfold M.names at h
 cases hr:refOf n with
 |none=>rw[hr]at h;cases h
 |some p=>
  obtain ⟨a,b⟩:=p;rw[hr]at h;simp only at h
  split at h
  ·rename_i hh
   cases h;obtain ⟨h0,h1,x,hx,_,hg⟩:=hereIn_ge hh;have:=(om.times _ x hx).2;exact ⟨hv,hC.1,hC.2,h0,h1,refOf_ge hr,by omega⟩
  ·cases h
theorem OkM.put(om:OkM N m){t:Nat}{l:List Wt}(hl:m.waits[t]?=some l)(h8:l.length<8){x:Wt}(hx:isWord x.v=true∧0≤x.w∧x.w<4∧0≤x.c∧x.c<m.cells.length∧0≤x.g∧x.g≤N) :
  OkM N {m with waits:=m.waits.set t (l++[x])}:=
 om.setWaits (by simp;omega) fun y hy=>by
  rcases List.mem_append.1 hy with h|h
  ·exact om.wval t l hl y h
  ·simp at h;subst h;exact hx
theorem hereIn_drain(l:List Cell)(y:Wt)(c g:Int):hereIn (drain1 l y).1 c g=hereIn l c g:=by
 by_cases hh:hereIn l y.c y.g=true
 ·have e:(drain1 l y).1=setWord l y.c.toNat y.w.toNat y.v:=by unfold drain1;rw[if_pos hh]
  rw[e];unfold hereIn cellAt
  by_cases hc:c<0
  ·simp[hc]
  ·rw[if_neg hc,if_neg hc,setWord_get]
   cases l[c.toNat]? with
   |none=>rfl
   |some x=>
    simp only[Option.map_some]
    split <;> rfl
 ·have e:(drain1 l y).1=l:=by unfold drain1;rw[if_neg hh]
  rw[e]
end Qh
end
section
namespace Qs
theorem M.run_snoc(m:M):∀(l:List Int) (n:Int),m.run (l++[n])=((((m.run l).1).turn n).1,(m.run l).2+(if (((m.run l).1).turn n).2=0 then 1 else 0)):=by
 intro l
 induction l generalizing m with
 |nil=>intro n;simp[M.run];rfl
 |cons x l ih=>
  intro n;show ((((m.turn x).1).run (l++[n])).1,(((m.turn x).1).run (l++[n])).2+_)=_;rw[ih];simp only[M.run];refine Prod.ext rfl ?_;simp only;omega
theorem M.run_two(m:M):∀(l:List Int),0≤(m.run l).2∧(m.run l).2≤l.length:=by
 intro l
 induction l generalizing m with
 |nil=>simp[M.run]
 |cons x l ih=>
  have:=ih (m.turn x).1;simp only[M.run,List.length_cons]
  split <;> omega
end Qs
namespace Qh
open Go Go.RowKit Qs
structure IntsAt(w:World)(v:Value)(l:List Int):Prop where
 at_:∃a c,v=.slice a l.length c∧l.length≤maxLen∧∀(i:Nat) x,l[i]?=some x→∃b off,a=some ⟨b,off,none⟩∧b<w.heap.size∧w.cell? ⟨b,off+i,none⟩=some (.int .i64 x)
theorem IntsAt.frame{w w':World}{F:Nat→Prop}{v:Value}{l:List Int}(h:IntsAt w v l)(hM:Mod F w w')(hF:∀b,v.ownBlock=some b→¬F b):IntsAt w' v l:=by
 obtain ⟨a,c,rfl,hc,hx⟩:=h.at_;refine ⟨a,c,rfl,hc,fun i x hi=>?_⟩;obtain ⟨b,off,rfl,hlt,hcell⟩:=hx i x hi;exact ⟨b,off,rfl,Nat.lt_of_lt_of_le hlt hM.size,hM.cell hcell (hF b rfl)⟩
theorem IntsAt.frame0{w w':World}{v:Value}{l:List Int}(h:IntsAt w v l)(hM:Mod noF w w'):IntsAt w' v l:=h.frame hM fun _ _ e=>e
end Qh
end
section
namespace Qh
open Go Go.RowKit Qs
variable {τ : Ty}{K:Nat→Bool}{w w':World}{L:Lay}{m m':M}
def pad(k:Nat)(l:List Int):List Int:=l++List.replicate (k - l.length) 0
theorem pad_len{k:Nat}{l:List Int}(h:l.length≤k):(pad k l).length=k:=by simp[pad];omega
theorem IntsAt.src{u:Value}{l:List Int}(h:IntsAt w u l):∃sp c,u=.slice sp l.length c∧(0<(l.map (Value.int .i64)).length→∃ad,sp=some ad∧∀j v,(l.map (Value.int .i64))[j]?=some v→w.cell? (ad.add j)=some v):=by
 obtain ⟨a,c,e,_,hx⟩:=h.at_;refine ⟨a,c,e,fun hl=>?_⟩
 have hl':0<l.length:=by simpa using hl
 obtain ⟨b,off,rfl,_,_⟩:=hx 0 l[0] (List.getElem?_eq_getElem hl');refine ⟨_,rfl,fun j v hv=>?_⟩;rw[List.getElem?_map]at hv;obtain ⟨x,hx1,rfl⟩:=Option.map_eq_some_iff.1 hv;obtain ⟨b',off',e',_,hc⟩:=hx j x hx1;cases e'
 have hadd:(⟨b,off,none⟩:Addr).add j=⟨b,off+j,none⟩:=by unfold Addr.add;split <;> simp_all
 rw[hadd];exact hc
end Qh
end
section
namespace Qh
open Go Go.RowKit Qs
def insV(_:Nat)(x:Instr):List Value:=instrVals x
def InsRow(T:TypeId)(w:World)(v:Value)(l:List Instr):Prop:=w.ownsRow 0 T 5 v l.length (flat insV 0 l)
theorem InsRow.slice{T:TypeId}{w:World}{v:Value}{l:List Instr}(h:InsRow T w v l):∃a c,v=.slice a l.length c∧c≤maxLen∧l.length≤maxLen:=by
 rcases h.2 with ⟨rfl,h0⟩|⟨g,cap,cur,rfl,_,_,h1,h2,_⟩
 ·rw[h0];exact ⟨none,0,rfl,Nat.zero_le _,Nat.zero_le _⟩
 ·exact ⟨_,_,rfl,h2,Nat.le_trans h1 h2⟩
theorem InsRow.code{T:TypeId}{w:World}{v:Value}{l:List Instr}(h:InsRow T w v l):CodeAt w v l:=by
 rcases h.2 with ⟨rfl,h0⟩|⟨g,cap,cur,rfl,_,hg,h1,h2,h3,h4⟩
 ·refine ⟨none,0,by rw[h0],Nat.zero_le _,fun i x hx=>?_⟩;have:=(List.getElem?_eq_some_iff.1 hx).1;omega
 ·refine ⟨_,_,rfl,h2,fun i x hx=>⟨g,0,rfl,lt_of_block hg,fun j y hy=>?_⟩⟩;have hlt:j<5:=(List.getElem?_eq_some_iff.1 hy).1;have hgt:=flat_get insV 5 (fun _ _=>rfl) hlt l 0 i x hx [];rw[List.append_nil]at hgt;rw[cell_of_heap hg,Nat.zero_add];have hi:i<l.length:=(List.getElem?_eq_some_iff.1 hx).1
  have e:cur[i*5+j]?=(cur.toList.take (l.length*5))[i*5+j]?:=by
   rw[List.getElem?_take,if_pos (by omega)];simp
  rw[e,h4,hgt];exact hy
theorem InsRow.lt{T:TypeId}{w:World}{v:Value}{l:List Instr}(h:InsRow T w v l){g:Nat}(hg:v.ownBlock=some g):g<w.heap.size:=(World.ownsRow.lt h g hg).2
theorem new_cells_at(w:World)(l:List Value)(T:TypeId){g:Nat}(hg:w.heap.size=g):∀j u,l[j]?=some u→(w.alloc (.cells l.toArray T)).cell? ((⟨g,0,none⟩:Addr).add j)=some u:=by
 subst hg;exact new_cells w l T
theorem size1(w:World)(a:Obj):(w.alloc a).heap.size=w.heap.size+1:=by simp
theorem size2(w:World)(a b:Obj):((w.alloc a).alloc b).heap.size=w.heap.size+1+1:=by simp
theorem appended{w w1 w2:World}{r:Option Nat}(hg:w1.grownBy w2 r)(h:Mod noF w w1):Mod (fun k=>r=some k) w w2:=
 h.any.grown hg fun k hk _=>hk
end Qh
end
section
namespace Qh
open Go Go.RowKit Qs
variable {τ : Ty}{K:Nat→Bool}{w w':World}{L L':Lay}{m m':M}
def cellC(init:List (List Int))(i j:Nat):Cell:=if j<i then ⟨pad 4 (init.getD j []),1,true⟩else ⟨[0,0,0,0],0,false⟩
def preM(n t:Nat)(init:List (List Int))(i:Nat):M:=⟨(List.range n).map (cellC init i),List.replicate t [],[],[],0⟩
theorem preM_zero(n t:Nat)(init:List (List Int)):preM n t init 0=newM n t:=by
 unfold preM newM
 congr 1
 apply List.ext_getElem?;intro j
 by_cases h:j<n
 ·simp[h,cellC]
 ·rw[List.getElem?_eq_none (by simpa using h),List.getElem?_eq_none (by simpa using h)]
theorem preM_get{n t i j:Nat}{init:List (List Int)}(h:j<n):(preM n t init i).cells[j]?=some (cellC init i j):=by simp[preM,h]
theorem preM_len(n t i:Nat)(init:List (List Int)):(preM n t init i).cells.length=n:=by simp[preM]
theorem preM_succ{n t i:Nat}{init:List (List Int)}(h:i<n){l:List Int}(hl:init[i]?=some l) :
  {(preM n t init i)with cells:=((preM n t init i).cells.set i (zeroCell 1)).set i ⟨pad 4 l,1,true⟩} = preM n t init (i+1):=by
 show M.mk ((((List.range n).map (cellC init i)).set i (zeroCell 1)).set i ⟨pad 4 l,1,true⟩) _ _ _ _=M.mk ((List.range n).map (cellC init (i+1))) _ _ _ _
 congr 1
 apply List.ext_getElem?;intro j;simp only[List.set_set];rw[List.getElem?_set]
 by_cases hj:j<n
 ·by_cases e:i=j
  ·subst e;simp[h,cellC,List.getD,hl]
  ·rw[if_neg e];simp only[List.getElem?_map,List.getElem?_range hj,Option.map_some]
   congr 1
   unfold cellC
   by_cases h1:j<i
   ·rw[if_pos h1,if_pos (by omega)]
   ·rw[if_neg h1,if_neg (by omega)]
 ·have:¬i=j:=by omega
  rw[if_neg this,List.getElem?_eq_none (by simpa using hj),List.getElem?_eq_none (by simpa using hj)]
theorem preM_alloc{n t i:Nat}{init:List (List Int)}(h:i<n):allocAt (preM n t init i).cells 0=some (i,0):=by
 have:=allocAt_found (preM n t init i).cells 0 i ⟨[0,0,0,0],0,false⟩ (by rw[preM_get h];simp[cellC]) rfl (fun j x hj hx=>by
  rw[preM_get (by omega)]at hx;cases hx
  simp[cellC,hj])
 simpa using this
theorem pad_word{k:Nat}{l:List Int}(h:∀v∈l,isWord v=true):∀v∈pad k l,isWord v=true:=by
 intro v hv;unfold pad at hv
 rcases List.mem_append.1 hv with h1|h1
 ·exact h v h1
 ·rw[List.eq_of_mem_replicate h1];rfl
def RowsFine(k:Nat)(ll:List (List Int)):Prop:=∀l∈ll,l.length≤k∧∀v∈l,isWord v=true
theorem RowsFine.getD{k:Nat}{ll:List (List Int)}(h:RowsFine k ll)(j:Nat):(ll.getD j []).length≤k∧∀v∈ll.getD j [],isWord v=true:=by
 unfold List.getD
 rcases e:ll[j]? with _|l
 ·simp
 ·exact h l (List.mem_of_getElem? e)
theorem preM_ok{n t i:Nat}{init:List (List Int)}(h1:1≤n)(hn:n≤64)(ht:t≤6)(hi:RowsFine 4 init):OkM 1 (preM n t init i):=by
 refine ⟨by rw[preM_len];exact h1,by rw[preM_len];exact hn,?_,?_,by simpa[preM]using ht,?_,?_,by omega⟩
 ·intro j c hc
  have hj:j<n:=by have:=(List.getElem?_eq_some_iff.1 hc).1;rwa [preM_len]at this
  rw[preM_get hj]at hc;cases hc;unfold cellC
  split
  ·exact ⟨pad_len (hi.getD j).1,pad_word (hi.getD j).2⟩
  ·exact ⟨rfl,fun v hv=>by simp at hv;subst hv;rfl⟩
 ·intro j c hc
  have hj:j<n:=by have:=(List.getElem?_eq_some_iff.1 hc).1;rwa [preM_len]at this
  rw[preM_get hj]at hc;cases hc;unfold cellC
  split <;> simp
 ·intro u l hl;have:l=[]:=List.eq_of_mem_replicate (List.mem_of_getElem? hl);subst this;simp
 ·intro u l hl;have:l=[]:=List.eq_of_mem_replicate (List.mem_of_getElem? hl);subst this;simp
end Qh
end
section
namespace Qh
open Go Go.RowKit Qs
variable {τ : Ty}{K:Nat→Bool}{w w' w2:World}{L L':Lay}{m m':M}{N:Int}
theorem flat_mark_snoc(x:Int × Int):∀(l:List (Int × Int)) (s:Nat),flat markVals s (l++[x])=flat markVals s l++[.int .i64 x.1,.int .i64 x.2]
 |[],s=>rfl
 |y :: l,s=>by
  have:=flat_mark_snoc x l (s+1);simp[flat,this]
end Qh
end
section
namespace Qs
def Cell.told(c:Cell):List Nat:=c.times.toNat :: (if c.here then 1 :: c.words.map Int.toNat else [0])
def Wt.told(x:Wt):List Nat:=[x.c.toNat,x.g.toNat,x.w.toNat,x.v.toNat]
def rowTold(q:List Wt):List Nat:=q.length :: q.flatMap Wt.told
def Thr.told(h:Thr):List Nat:=h.pc :: h.regs.map Int.toNat
def M.told(m:M):List Nat:=m.cells.flatMap Cell.told++m.waits.flatMap rowTold++m.T.flatMap Thr.told
def M.key(m:M):List Nat:=m.told.flatMap vint
end Qs
end
section
namespace Qs
structure Nd where
 m:M
 src:Int
 by_:Int
structure Bf where
 l:List Nd
 ends:Nat
inductive Out where
 |bound
 |told (states ends:Nat)
 |fault (states ends:Nat) (way:List Int)
def wayBack(l:List Nd):Nat→Int→List Int
 |0,_=>[]
 |f+1,at_=>match l[at_.toNat]? with
  |none=>[]
  |some x=>if 0≤x.src then x.by_ :: wayBack l f x.src else []
def wayTo(l:List Nd)(at_:Nat):List Int:=(wayBack l (at_+1) at_).reverse
theorem vint_pos(n:Nat):1≤(vint n).length:=by
 rw[vint];split <;> simp
theorem told_inj:∀(l l':List Nat),l.flatMap vint=l'.flatMap vint→l=l'
 |[],[],_=>rfl
 |[],y :: l',h=>by
  rw[List.flatMap_nil,List.flatMap_cons]at h;have h1:=congrArg List.length h;have h2:=vint_pos y;rw[List.length_append,List.length_nil]at h1;omega
 |x :: l,[],h=>by
  rw[List.flatMap_nil,List.flatMap_cons]at h;have h1:=congrArg List.length h;have h2:=vint_pos x;rw[List.length_append,List.length_nil]at h1;omega
 |x :: l,y :: l',h=>by
  rw[List.flatMap_cons,List.flatMap_cons]at h;obtain ⟨rfl,h2⟩:=vint_inj x y _ _ h;rw[told_inj l l' h2]
theorem key_contains(l:List Nd)(m:M):(l.map fun y=>y.m.key).contains m.key=(l.map fun y=>y.m.told).contains m.told:=by
 rw[Bool.eq_iff_iff];simp only[List.contains_iff_mem,List.mem_map];constructor
 ·rintro ⟨y,hy,e⟩;exact ⟨y,hy,told_inj _ _ e⟩
 ·rintro ⟨y,hy,e⟩;exact ⟨y,hy,by unfold M.key;rw[e]⟩
def SrcOk(L:List Nd):Prop:=∀(j:Nat) x,L[j]?=some x→x.src<(j:Int)
def Bf.turn(most i k:Nat)(s:Bf):Except Out Bf:=
 match s.l[i]? with
 |none=>.ok s
 |some x=>
  if (x.m.turn k).2≠0 then .ok s
  else if 0<(x.m.turn k).1.faults then .error (.fault s.l.length s.ends (wayTo s.l i++[(k:Int)]))
  else if (s.l.map fun y=>y.m.told).contains (x.m.turn k).1.told then .ok s
  else if s.l.length=most then .error .bound
  else .ok ⟨s.l++[⟨(x.m.turn k).1,i,k⟩],s.ends+(if (x.m.turn k).1.rest then 1 else 0)⟩
def Bf.turns(most i:Nat):List Nat→Bf→Except Out Bf
 |[],s=>.ok s
 |k :: ks,s=>match s.turn most i k with
  |.error o=>.error o
  |.ok s'=>Bf.turns most i ks s'
def Bf.go(most t:Nat):Nat→Nat→Bf→Out
 |0,_,s=>.told s.l.length s.ends
 |f+1,i,s=>if i<s.l.length then (match Bf.turns most i (List.range (2*t)) s with
   |.error o=>o
   |.ok s'=>Bf.go most t f (i+1) s')else .told s.l.length s.ends
def Bf.start(m:M):Bf:=⟨[⟨m,-1,0⟩],if m.rest then 1 else 0⟩
def eachOut(most:Nat)(m:M):Out:=Bf.go most m.T.length (most+1) 0 (Bf.start m)
def Bf.rest(most t f i k:Nat)(s:Bf):Out:=match Bf.turns most i (List.range' k (2*t - k)) s with
 |.error o=>o
 |.ok s'=>Bf.go most t f (i+1) s'
theorem Bf.go_succ{most t f i:Nat}{s:Bf}(h:i<s.l.length):Bf.go most t (f+1) i s=Bf.rest most t f i 0 s:=by
 unfold Bf.rest;rw[Bf.go,if_pos h,List.range_eq_range',Nat.sub_zero]
theorem Bf.rest_end{most t f i:Nat}{s:Bf}:Bf.rest most t f i (2*t) s=Bf.go most t f (i+1) s:=by
 unfold Bf.rest;rw[Nat.sub_self];rfl
theorem Bf.rest_err{most t f i k:Nat}{s:Bf}{o:Out}(hk:k<2*t)(h:s.turn most i k=.error o):Bf.rest most t f i k s=o:=by
 unfold Bf.rest;obtain ⟨n,hn⟩:∃n,2*t - k=n+1:=⟨2*t - k - 1,by omega⟩;rw[hn,List.range'_succ,Bf.turns,h]
theorem Bf.rest_ok{most t f i k:Nat}{s s':Bf}(hk:k<2*t)(h:s.turn most i k=.ok s'):Bf.rest most t f i k s=Bf.rest most t f i (k+1) s':=by
 unfold Bf.rest;obtain ⟨n,hn⟩:∃n,2*t - k=n+1:=⟨2*t - k - 1,by omega⟩
 have hn':2*t - (k+1)=n:=by omega
 rw[hn,List.range'_succ,Bf.turns,h,hn']
theorem Bf.turn_at{most i k:Nat}{s:Bf}{x:Nd}(hx:s.l[i]?=some x):s.turn most i k =
  if (x.m.turn k).2≠0 then .ok s
  else if 0<(x.m.turn k).1.faults then .error (.fault s.l.length s.ends (wayTo s.l i++[(k:Int)]))
  else if (s.l.map fun y=>y.m.key).contains (x.m.turn k).1.key then .ok s
  else if s.l.length=most then .error .bound
  else .ok ⟨s.l++[⟨(x.m.turn k).1,i,k⟩],s.ends+(if (x.m.turn k).1.rest then 1 else 0)⟩:=by
 unfold Bf.turn;rw[hx,key_contains]
theorem Bf.go_end{most t f i:Nat}{s:Bf}(h:¬i<s.l.length):Bf.go most t f i s=.told s.l.length s.ends:=by
 cases f with
 |zero=>rfl
 |succ f=>rw[Bf.go,if_neg h]
end Qs
end
namespace Go.Proofs.YtciaficoeajeaaaGreatDoor
section
open Go.RowKit Qs Qh
def RowsAt0(w:World)(v:Value)(ll:List (List Int)):Prop:=
 ∃a c,v=.slice a ll.length c∧∀(i:Nat) l,ll[i]?=some l→∃b off u,a=some ⟨b,off,none⟩∧b<w.heap.size∧w.cell? ⟨b,off+i,none⟩=some u∧IntsAt w u l∧True
theorem RowsAt0.keep{w w':World}{v:Value}{ll:List (List Int)}(h:RowsAt0 w v ll)(hB:Below w.heap.size w w'):RowsAt0 w' v ll:=by
 obtain ⟨a,c,e,hx⟩:=h;refine ⟨a,c,e,fun i l hi=>?_⟩;obtain ⟨b,off,u,e1,hb,hc,hi2,ho⟩:=hx i l hi;have hM:=Mod.below hB;exact ⟨b,off,u,e1,Nat.lt_of_lt_of_le hb hM.size,hM.cell hc (fun e=>e),hi2.frame0 hM,ho⟩
end
end Go.Proofs.YtciaficoeajeaaaGreatDoor
section
namespace Qs
def Cell.mask(c:Cell):Cell:=if c.here then c else {c with words:=[0,0,0,0]}
def Same(l l':List Cell):Prop:=l.map Cell.mask=l'.map Cell.mask
structure Sim(d:Int)(m m':M):Prop where
 cells:Same m.cells m'.cells
 waits:m.waits=m'.waits
 T:m.T=m'.T
 faults:m'.faults=m.faults+d
variable {d:Int}{m m' m2:M}{l l':List Cell}
theorem Sim.refl(m:M):Sim 0 m m:=⟨rfl,rfl,rfl,by omega⟩
theorem Sim.trans{d e:Int}(h:Sim d m m')(k:Sim e m' m2):Sim (d+e) m m2:=⟨Eq.trans (show m.cells.map Cell.mask=m'.cells.map Cell.mask from h.cells) k.cells,h.waits.trans k.waits,h.T.trans k.T,by rw[k.faults,h.faults];omega⟩
theorem mask_here(c:Cell):c.mask.here=c.here:=by unfold Cell.mask;split <;> rfl
theorem mask_times(c:Cell):c.mask.times=c.times:=by unfold Cell.mask;split <;> rfl
theorem Same.at_(h:Same l l')(i:Nat):(l[i]?).map Cell.mask=(l'[i]?).map Cell.mask:=by
 have:=congrArg (fun z=>z[i]?) (show l.map Cell.mask=l'.map Cell.mask from h)
 simpa using this
theorem Same.hereIn(h:Same l l')(c g:Int):Qs.hereIn l c g=Qs.hereIn l' c g:=by
 unfold Qs.hereIn cellAt
 by_cases hc:c<0
 ·simp[hc]
 ·have:=h.at_ c.toNat;rw[if_neg hc,if_neg hc]
  cases e1:l[c.toNat]? with
  |none=>
   rw[e1]at this
   cases e2:l'[c.toNat]? with
   |none=>rfl
   |some y=>rw[e2]at this;simp at this
  |some x=>
   rw[e1]at this
   cases e2:l'[c.toNat]? with
   |none=>rw[e2]at this;simp at this
   |some y=>
    rw[e2]at this;simp only[Option.map_some,Option.some.injEq]at this;simp only;rw[←mask_here x,←mask_here y,←mask_times x,←mask_times y,this]
theorem here_at{l:List Cell}{c g:Int}(h:hereIn l c g=true):∃x,l[c.toNat]?=some x∧x.here=true:=by
 unfold hereIn cellAt at h
 by_cases hc:c<0
 ·simp[hc]at h
 ·rw[if_neg hc]at h
  cases e:l[c.toNat]? with
  |none=>rw[e]at h;simp at h
  |some x=>rw[e]at h;simp at h;exact ⟨x,rfl,h.1⟩
theorem Same.get(h:Same l l'){i:Nat}{x:Cell}(hx:l[i]?=some x)(hh:x.here=true):l'[i]?=some x:=by
 have:=h.at_ i;rw[hx]at this
 cases e:l'[i]? with
 |none=>rw[e]at this;simp at this
 |some y=>
  rw[e]at this;simp only[Option.map_some,Option.some.injEq]at this
  have hy:y.here=true:=by rw[←mask_here y,←this,mask_here x];exact hh
  have e1:x.mask=x:=by unfold Cell.mask;rw[if_pos hh]
  have e2:y.mask=y:=by unfold Cell.mask;rw[if_pos hy]
  rw[e1,e2]at this;rw[this]
theorem Same.modify(h:Same l l')(i:Nat){f:Cell→Cell}(hf:∀x y:Cell,x.mask=y.mask→(f x).mask=(f y).mask):Same (l.modify i f) (l'.modify i f):=by
 refine List.ext_getElem? fun j=>?_;have:=h.at_ j;simp only[List.getElem?_map,List.getElem?_modify]
 cases e1:l[j]? with
 |none=>
  rw[e1]at this
  cases e2:l'[j]? with
  |none=>rfl
  |some y=>rw[e2]at this;simp at this
 |some x=>
  rw[e1]at this
  cases e2:l'[j]? with
  |none=>rw[e2]at this;simp at this
  |some y=>
   rw[e2]at this;simp only[Option.map_some,Option.some.injEq]at this;show some _=some _
   congr 1
   split
   ·exact hf x y this
   ·exact this
theorem mask_words{x y:Cell}(h:x.mask=y.mask)(w:Nat)(v:Int):({x with words:=x.words.set w v}:Cell).mask=({y with words:=y.words.set w v}:Cell).mask:=by
 have hh:x.here=y.here:=by rw[←mask_here x,←mask_here y,h]
 have ht:x.times=y.times:=by rw[←mask_times x,←mask_times y,h]
 unfold Cell.mask at h ⊢
 by_cases hx:x.here
 ·rw[if_pos hx,if_pos (hh ▸ hx)]at h;rw[if_pos hx,if_pos (hh ▸ hx),h]
 ·rw[if_neg hx,if_neg (hh ▸ hx),hh,ht]
theorem Same.setWord(h:Same l l')(c w:Nat)(v:Int):Same (Qs.setWord l c w v) (Qs.setWord l' c w v):=h.modify c fun _ _ e=>mask_words e w v
theorem Same.getWord(h:Same l l'){c g:Int}(hh:Qs.hereIn l c g=true)(w:Nat):Qs.getWord l c.toNat w=Qs.getWord l' c.toNat w:=by
 obtain ⟨x,hx,h1⟩:=here_at hh;unfold Qs.getWord;rw[hx,h.get hx h1]
theorem Same.drain1(h:Same l l')(x:Wt):Same (Qs.drain1 l x).1 (Qs.drain1 l' x).1∧(Qs.drain1 l x).2=(Qs.drain1 l' x).2:=by
 unfold Qs.drain1;rw[h.hereIn x.c x.g]
 split
 ·exact ⟨h.setWord _ _ _,rfl⟩
 ·exact ⟨h,rfl⟩
theorem Same.drainAll:∀(q:List Wt) {l l':List Cell},Same l l'→Same (Qs.drainAll l q).1 (Qs.drainAll l' q).1∧(Qs.drainAll l q).2=(Qs.drainAll l' q).2
 |[],_,_,h=>⟨h,rfl⟩
 |x :: q,l,l',h=>by
  obtain ⟨h1,h2⟩:=h.drain1 x;obtain ⟨h3,h4⟩:=Same.drainAll q h1;unfold Qs.drainAll;simp only;exact ⟨h3,by rw[h4,h2]⟩
theorem Sim.fence(h:Sim d m m')(t:Nat):Sim d (m.fence t) (m'.fence t):=by
 have hw:m'.waitsOf t=m.waitsOf t:=by unfold M.waitsOf;rw[h.waits]
 obtain ⟨h1,h2⟩:=Same.drainAll (m.waitsOf t) h.cells;refine ⟨?_,?_,h.T,?_⟩
 ·show Same (drainAll m.cells (m.waitsOf t)).1 (drainAll m'.cells (m'.waitsOf t)).1;rw[hw];exact h1
 ·show m.waits.set t []=m'.waits.set t [];rw[h.waits]
 ·show m'.faults+((drainAll m'.cells (m'.waitsOf t)).2:Int)=m.faults+((drainAll m.cells (m.waitsOf t)).2:Int)+d;rw[hw,←h2,h.faults];omega
theorem Sim.force(h:Sim d m m'):∀k,Sim d (m.force k) (m'.force k)
 |0=>h
 |k+1=>(Sim.force h k).fence k
theorem Sim.drain(h:Sim d m m')(t:Nat):Sim d (m.drain t).1 (m'.drain t).1∧(m.drain t).2=(m'.drain t).2:=by
 have hw:m'.waitsOf t=m.waitsOf t:=by unfold M.waitsOf;rw[h.waits]
 unfold M.drain;rw[hw]
 cases m.waitsOf t with
 |nil=>exact ⟨h,rfl⟩
 |cons x r=>
  obtain ⟨h1,h2⟩:=h.cells.drain1 x;refine ⟨⟨h1,by show m.waits.set t r=m'.waits.set t r;rw[h.waits],h.T,?_⟩,rfl⟩;show m'.faults+(if (drain1 m'.cells x).2 then 1 else 0:Int)=m.faults+(if (drain1 m.cells x).2 then 1 else 0:Int)+d;rw[←h2,h.faults];omega
theorem Sim.setT(h:Sim d m m')(f:List Thr→List Thr):Sim d {m with T:=f m.T} {m' with T:=f m'.T}:=⟨h.cells,h.waits,by show f m.T=f m'.T;rw[h.T],h.faults⟩
theorem Sim.setReg(h:Sim d m m')(t:Nat)(a v:Int):Sim d (m.setReg t a v) (m'.setReg t a v):=h.setT _
theorem Sim.setPc(h:Sim d m m')(t p:Nat):Sim d (m.setPc t p) (m'.setPc t p):=h.setT _
theorem Sim.fault(h:Sim d m m'):Sim d m.fault m'.fault:=⟨h.cells,h.waits,h.T,by show m'.faults+1=m.faults+1+d;rw[h.faults];omega⟩
theorem Sim.thr(h:Sim d m m')(t:Nat):m'.thr t=m.thr t:=by unfold M.thr;rw[h.T]
theorem Sim.names(h:Sim d m m')(n:Int):m'.names n=m.names n:=by
 unfold M.names
 cases refOf n with
 |none=>rfl
 |some p=>simp only;rw[h.cells.hereIn]
theorem names_here{m:M}{n c g:Int}(h:m.names n=some (c,g)):hereIn m.cells c g=true:=by
 unfold M.names at h
 cases e:refOf n with
 |none=>rw[e]at h;simp at h
 |some p=>
  rw[e]at h;simp only at h
  split at h
  ·simp only[Option.some.injEq,Prod.mk.injEq]at h;obtain ⟨rfl,rfl⟩:=h;assumption
  ·simp at h
theorem drain1_here{l:List Cell}{x:Wt}{c g:Int}(h:hereIn l c g=true):hereIn (drain1 l x).1 c g=true:=by
 unfold Qs.drain1
 split
 ·unfold hereIn cellAt at h ⊢
  by_cases hc:c<0
  ·simp[hc]at h
  ·rw[if_neg hc]at h ⊢;unfold setWord;rw[List.getElem?_modify]
   cases e:l[c.toNat]? with
   |none=>rw[e]at h;simp at h
   |some y=>
    rw[e]at h;simp only at h;simp only[Option.map_eq_map,Option.map_some]
    split <;> exact h
 ·exact h
theorem drainAll_here:∀(q:List Wt) {l:List Cell} {c g:Int},hereIn l c g=true→hereIn (drainAll l q).1 c g=true
 |[],_,_,_,h=>h
 |x :: q,l,c,g,h=>by
  unfold Qs.drainAll;exact drainAll_here q (drain1_here h)
theorem fence_here{m:M}{t:Nat}{c g:Int}(h:hereIn m.cells c g=true):hereIn (m.fence t).cells c g=true:=drainAll_here _ h
theorem mask_free{x y:Cell}(h:x.mask=y.mask):({x with here:=false}:Cell).mask=({y with here:=false}:Cell).mask:=by
 have ht:x.times=y.times:=by rw[←mask_times x,←mask_times y,h]
 simp[Cell.mask,ht]
theorem Same.set(h:Same l l')(i:Nat)(y:Cell):Same (l.set i y) (l'.set i y):=by
 show (l.set i y).map Cell.mask=(l'.set i y).map Cell.mask;rw[List.map_set,List.map_set,show l.map Cell.mask=l'.map Cell.mask from h]
theorem Same.allocAt:∀ {l l':List Cell},Same l l'→∀i,Qs.allocAt l i=Qs.allocAt l' i
 |[],[],_,_=>rfl
 |[],y :: l',h,_=>by simp[Same]at h
 |x :: l,[],h,_=>by simp[Same]at h
 |x :: l,y :: l',h,i=>by
  simp only[Same,List.map_cons,List.cons.injEq]at h;unfold Qs.allocAt
  have hh:x.here=y.here:=by rw[←mask_here x,←mask_here y,h.1]
  have ht:x.times=y.times:=by rw[←mask_times x,←mask_times y,h.1]
  rw[hh,ht,Same.allocAt h.2]
theorem Sim.exec(h:Sim d m m')(t:Nat)(x:Instr):Sim d (m.exec t x) (m'.exec t x):=by
 have hth:=h.thr t
 have hw:m'.waitsOf t=m.waitsOf t:=by unfold M.waitsOf;rw[h.waits]
 have hf:=h.fence t;unfold M.exec;simp only[hth,h.names,hw]
 split
 ·exact h.setReg _ _ _
 ·exact h.setReg _ _ _
 ·exact h.setReg _ _ _
 ·exact h.setReg _ _ _
 ·exact h.setReg _ _ _
 ·exact h.setReg _ _ _
 ·cases hn:m.names ((m.thr t).reg x.B)with
  |none=>exact h.fault.setReg _ _ _
  |some p=>
   obtain ⟨c,g⟩:=p;simp only;rw[h.cells.getWord (names_here hn)];exact h.setReg _ _ _
 ·cases hn:m.names ((m.thr t).reg x.A)with
  |none=>exact h.fault
  |some p=>
   obtain ⟨c,g⟩:=p;simp only
   have hd:Sim d (if (m.waitsOf t).length≥8 then (m.drain t).1 else m) (if (m.waitsOf t).length≥8 then (m'.drain t).1 else m'):=by
    split
    ·exact (h.drain t).1
    ·exact h
   exact ⟨hd.cells,by show List.modify _ _ _=List.modify _ _ _;rw[hd.waits],hd.T,hd.faults⟩
 ·cases hn:m.names ((m.thr t).reg x.B)with
  |none=>exact h.fault.setReg _ _ _
  |some p=>
   obtain ⟨c,g⟩:=p;simp only;have hh:hereIn (m.fence t).cells c g=true:=fence_here (names_here hn);rw[hf.cells.getWord hh]
   have hs:Sim d ({m.fence t with cells:=setWord (m.fence t).cells c.toNat x.C.toNat ((m.thr t).reg x.A)}:M) ({m'.fence t with cells:=setWord (m'.fence t).cells c.toNat x.C.toNat ((m.thr t).reg x.A)}:M):=⟨hf.cells.setWord _ _ _,hf.waits,hf.T,hf.faults⟩;exact hs.setReg _ _ _
 ·cases hn:m.names ((m.thr t).reg x.A)with
  |none=>exact h.fault.setReg _ _ _
  |some p=>
   obtain ⟨c,g⟩:=p;simp only;have hh:hereIn (m.fence t).cells c g=true:=fence_here (names_here hn);rw[hf.cells.getWord hh];refine Sim.setReg ?_ _ _ _
   split
   ·exact ⟨hf.cells.setWord _ _ _,hf.waits,hf.T,hf.faults⟩
   ·exact hf
 ·rw[←h.cells.allocAt 0]
  cases ha:allocAt m.cells 0 with
  |none=>exact h.setReg _ _ _
  |some p=>
   obtain ⟨i,n⟩:=p;have hs:Sim d ({m with cells:=m.cells.set i ⟨[0,0,0,0],n+1,true⟩}:M) ({m' with cells:=m'.cells.set i ⟨[0,0,0,0],n+1,true⟩}:M):=⟨h.cells.set i _,h.waits,h.T,h.faults⟩;exact hs.setReg _ _ _
 ·cases hn:m.names ((m.thr t).reg x.A)with
  |none=>exact h.fault
  |some p=>
   obtain ⟨c,g⟩:=p;simp only;exact ⟨hf.cells.modify _ fun _ _ e=>mask_free e,hf.waits,hf.T,hf.faults⟩
 ·exact hf
 ·rw[←h.T];exact h.force _
 ·split
  ·unfold M.jump;rw[hth];exact h.setPc _ _
  ·exact h
 ·split
  ·unfold M.jump;rw[hth];exact h.setPc _ _
  ·exact h
 ·unfold M.jump;rw[hth];exact h.setPc _ _
 ·split <;> split <;> exact ⟨h.cells,h.waits,h.T,h.faults⟩
 ·split
  ·exact h.fault
  ·exact h
 ·exact h
theorem Sim.step(h:Sim d m m')(t:Nat):Sim d (m.step t).1 (m'.step t).1∧(m.step t).2=(m'.step t).2:=by
 have hth:=h.thr t;unfold M.step;rw[hth]
 cases e:(m.thr t).code[(m.thr t).pc]? with
 |none=>exact ⟨h,rfl⟩
 |some x=>
  simp only
  split
  ·exact ⟨h,rfl⟩
  ·exact ⟨(h.setPc _ _).exec t x,rfl⟩
theorem Sim.turn(h:Sim d m m')(n:Int):Sim d (m.turn n).1 (m'.turn n).1∧(m.turn n).2=(m'.turn n).2:=by
 unfold M.turn;rw[←h.T];simp only
 split
 ·exact h.step _
 ·exact h.drain _
theorem turn_ne{m:M}{n:Int}(h:(m.turn n).2≠0):(m.turn n).1=m:=by
 have hs:∀t,(m.step t).2≠0→(m.step t).1=m:=fun t h=>by
  unfold M.step at h ⊢
  cases e:(m.thr t).code[(m.thr t).pc]? with
  |none=>rfl
  |some x=>
   rw[e]at h;simp only at h ⊢
   by_cases h20:x.op=20
   ·rw[if_pos h20]
   ·rw[if_neg h20]at h;exact absurd rfl h
 have hd:∀t,(m.drain t).2≠0→(m.drain t).1=m:=fun t h=>by
  unfold M.drain at h ⊢
  cases e:m.waitsOf t with
  |nil=>rfl
  |cons x r=>rw[e]at h;exact absurd rfl h
 unfold M.turn at h ⊢;simp only at h ⊢
 by_cases hk:(n % (2*(m.T.length:Int))).toNat<m.T.length
 ·rw[if_pos hk]at h ⊢;exact hs _ h
 ·rw[if_neg hk]at h ⊢;exact hd _ h
end Qs
end
