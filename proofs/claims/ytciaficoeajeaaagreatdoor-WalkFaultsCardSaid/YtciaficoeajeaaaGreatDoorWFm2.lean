/- Texts that belong together, joined. -/
import Derived.Below
import Derived.OneCell
import Derived.Laws.NewBlocks
import Derived.Calls
import Derived.Deep.Quiet
import Derived.Test.YtciaficoeajeaaaGreatDoorWFm1
import Derived.Laws.MakeOwn
import Derived.Laws.OwnMore
import Derived.Deep.RegionLaw
import Derived.Laws.CopyRow
import Derived.Lib.Strings
import Derived.Test.YtciaficoeajeaaaGreatDoorRows
import Derived.KernelRfl
import Derived.SevenTiedAt
set_option linter.unusedVariables false
set_option linter.unusedSimpArgs false
set_option linter.unusedSectionVars false
section
namespace Qh
open Go Go.RowKit Qs
theorem ret_bool{a b:Bool}(h:a=b):Ending.returned (.bool a)=.returned (.bool b):=by rw[h]
structure Mod(F:Nat→Prop)(w w':World):Prop where
 os:w'.os=w.os
 tape:w'.tape=w.tape
 output:w'.output=w.output
 size:w.heap.size≤w'.heap.size
 block:∀k,k<w.heap.size→¬F k→w'.heap[k]?=w.heap[k]?
def noF:Nat→Prop:=fun _=>False
theorem Mod.refl(F:Nat→Prop)(w:World):Mod F w w:=⟨rfl,rfl,rfl,Nat.le_refl _,fun _ _ _=>rfl⟩
theorem Mod.trans{F G:Nat→Prop}{a b c:World}(h:Mod F a b)(k:Mod G b c)(hG:∀x,x<a.heap.size→G x→F x):Mod F a c:=
 ⟨k.os.trans h.os,k.tape.trans h.tape,k.output.trans h.output,Nat.le_trans h.size k.size,fun i hi hf=>(k.block i (Nat.lt_of_lt_of_le hi h.size) (fun e=>hf (hG i hi e))).trans (h.block i hi hf)⟩
theorem Mod.trans0{F:Nat→Prop}{a b c:World}(h:Mod F a b)(k:Mod noF b c):Mod F a c:=h.trans k fun _ _ e=>e.elim
theorem Mod.mono{F G:Nat→Prop}{w w':World}(h:Mod F w w')(hF:∀x,x<w.heap.size→F x→G x):Mod G w w':=
 ⟨h.os,h.tape,h.output,h.size,fun k hk hg=>h.block k hk (fun e=>hg (hF k hk e))⟩
theorem Mod.any{F:Nat→Prop}{w w':World}(h:Mod noF w w'):Mod F w w':=h.mono fun _ _ e=>e.elim
theorem Mod.alloc{F:Nat→Prop}{a w:World}(h:Mod F a w)(o:Obj):Mod F a (w.alloc o):=
 ⟨h.os,h.tape,h.output,by have:=h.size;simp;omega,fun k hk hf=>(Below.heap_alloc w o k (Nat.lt_of_lt_of_le hk h.size)).trans (h.block k hk hf)⟩
theorem Mod.drew{F:Nat→Prop}{a w:World}(h:Mod F a w):Mod F a w.drew:=⟨h.os,h.tape,h.output,h.size,h.block⟩
theorem Mod.drewN{F:Nat→Prop}{a w:World}(h:Mod F a w)(n:Nat):Mod F a (w.drewN n):=⟨h.os,h.tape,h.output,h.size,h.block⟩
theorem Mod.setCell{F:Nat→Prop}{a w:World}(h:Mod F a w){p:Addr}(hp:p.block<a.heap.size→F p.block)(u:Value):Mod F a (w.setCell p u):=
 ⟨h.os,h.tape,h.output,by have:=h.size;simp[World.setCell];omega,fun k hk hf=>(Below.heap_setCell w p u k (fun e=>hf (by subst e;exact hp hk))).trans (h.block k hk hf)⟩
theorem Mod.grown{F:Nat→Prop}{a w w':World}{row:Option Nat}(h:Mod F a w)(hg:w.grownBy w' row)(hr:∀k,row=some k→k<a.heap.size→F k):Mod F a w':=
 ⟨hg.os.trans h.os,hg.tape.trans h.tape,hg.output.trans h.output,Nat.le_trans h.size hg.size,
  fun k hk hf=>(hg.block k (Nat.lt_of_lt_of_le hk h.size) (fun e=>hf (hr k e.symm hk))).trans (h.block k hk hf)⟩
theorem Mod.below{w w':World}(h:Below w.heap.size w w'):Mod noF w w':=⟨h.os,h.tape,h.output,h.size,fun k hk _=>h.block k hk⟩
theorem Mod.toBelow{w w':World}(h:Mod noF w w'):Below w.heap.size w w':=⟨h.os,h.tape,h.output,h.size,fun k hk=>h.block k hk (fun e=>e.elim)⟩
theorem Mod.cell{F:Nat→Prop}{w w':World}(h:Mod F w w'){a:Addr}{v:Value}(hc:w.cell? a=some v)(hf:¬F a.block):w'.cell? a=some v:=
 (World.cell?_of_block (h.block _ (World.block_lt_of_cell? w a hc) hf)).trans hc
theorem Mod.heap{F:Nat→Prop}{w w':World}(h:Mod F w w'){k:Nat}{o:Obj}(hc:w.heap[k]?=some o)(hf:¬F k):w'.heap[k]?=some o:=
 (h.block _ (lt_of_block hc) hf).trans hc
theorem cell_of_heap{w:World}{b:Nat}{cs:Array Value}{t:TypeId}{fz:Nat × Nat}(h:w.heap[b]?=some (.cells cs t fz))(i:Nat):w.cell? ⟨b,i,none⟩=cs[i]?:=by
 simp[World.cell?,h]
theorem free_of_heap{w:World}{b:Nat}{cs:Array Value}{t:TypeId}(h:w.heap[b]?=some (.cells cs t (0,0)))(i:Nat):w.frozen? ⟨b,i,none⟩=false:=by
 simp[World.frozen?,h]
theorem heap_setCell_same{w:World}{b:Nat}{cs:Array Value}{t:TypeId}{fz:Nat × Nat}(h:w.heap[b]?=some (.cells cs t fz))(i:Nat)(v:Value) :
  (w.setCell ⟨b,i,none⟩ v).heap[b]?=some (.cells (cs.setIfInBounds i v) t fz):=by
 have hlt:=lt_of_block h
 have h':w.heap[b]=.cells cs t fz:=by simpa[Array.getElem?_eq_getElem hlt]using h
 show (w.heap.modify b _)[b]?=_;rw[Array.getElem?_eq_getElem (by simpa using hlt),Array.getElem_modify_self,h'];rfl
theorem heap_setCell_other{w:World}{b k i:Nat}(h:k≠b)(v:Value):(w.setCell ⟨b,i,none⟩ v).heap[k]?=w.heap[k]?:=
 Below.heap_setCell w _ v k h
end Qh
end
section
namespace Qh
open Go Go.RowKit Qs
structure Ty where
 mach:TypeId
 mem:TypeId
 cell:TypeId
 waits:TypeId
 thr:TypeId
 mark:TypeId
 int:TypeId
 wait:TypeId
 instr:TypeId
structure Lay where
 blk:Nat→Nat→Nat
 nil:Nat→Nat→Bool
 junk:Nat→Nat→List Value
 sp:Nat→Nat→Nat
 code:Nat→Value
def iv(n:Int):Value:=.int .i64 n
def flat{α : Type}(f:Nat→α→List Value):Nat→List α→List Value
 |_,[]=>[]
 |s,x :: l=>f s x++flat f (s+1) l
def wtVals(_:Nat)(x:Wt):List Value:=[iv x.c,iv x.g,iv x.w,iv x.v]
def markVals(_:Nat)(x:Int × Int):List Value:=[iv x.1,iv x.2]
variable {τ : Ty}{K:Nat→Bool}{w w':World}{L L':Lay}{m m':M}
theorem flat_length{α : Type}(f:Nat→α→List Value)(k:Nat)(hk:∀s x,(f s x).length=k):∀(l:List α) (s:Nat),(flat f s l).length=l.length*k
 |[],_=>by simp[flat]
 |x :: l,s=>by simp[flat,hk,flat_length f k hk l (s+1),Nat.add_mul];omega
theorem flat_get{α : Type}(f:Nat→α→List Value)(k:Nat)(hk:∀s x,(f s x).length=k){j:Nat}(hj:j<k) :
  ∀(l:List α) (s i:Nat) (x : α),l[i]?=some x→∀r,(flat f s l++r)[i*k+j]?=(f (s+i) x)[j]?
 |[],_,_,_,h,_=>by simp at h
 |y :: l,s,0,x,h,r=>by
  simp at h;subst h;simp[flat,List.getElem?_append_left (show j<(f s y++(flat f (s+1) l++r)).length by simp[hk];omega)];rw[List.getElem?_append_left (by rw[hk];exact hj)]
 |y :: l,s,i+1,x,h,r=>by
  have ih:=flat_get f k hk hj l (s+1) i x (by simpa using h) r;simp only[flat,List.append_assoc];rw[List.getElem?_append_right (by rw[hk,Nat.add_mul];omega),hk,show (i+1)*k+j - k=i*k+j from by rw[Nat.add_mul];omega,ih]
  congr 2;omega
theorem flat_set{α : Type}(f:Nat→α→List Value)(k:Nat)(hk:∀s x,(f s x).length=k){j:Nat}(hj:j<k)(v:Value) :
  ∀(l:List α) (s i:Nat) (x y : α),l[i]?=some x→f (s+i) y=(f (s+i) x).set j v→∀r,(flat f s l++r).set (i*k+j) v=flat f s (l.set i y)++r
 |[],_,_,_,_,h,_,_=>by simp at h
 |z :: l,s,0,x,y,h,e,r=>by
  simp at h e;subst h;simp only[flat,List.set_cons_zero,Nat.zero_mul,Nat.zero_add,List.append_assoc,e];rw[List.set_append_left _ _ (by rw[hk];exact hj)]
 |z :: l,s,i+1,x,y,h,e,r=>by
  have ih:=flat_set f k hk hj v l (s+1) i x y (by simpa using h) (by rw[show s+1+i=s+(i+1)from by omega];exact e) r;simp only[flat,List.set_cons_succ,List.append_assoc];rw[List.set_append_right _ _ (by rw[hk,Nat.add_mul];omega),hk,show (i+1)*k+j - k=i*k+j from by rw[Nat.add_mul];omega,ih]
end Qh
end
section
namespace Qh
open Go Go.RowKit Qs
structure OkM(N:Int)(m:M):Prop where
 cells1:1≤m.cells.length
 cells:m.cells.length≤64
 words:∀(i:Nat) c,m.cells[i]?=some c→c.words.length=4∧∀v∈c.words,isWord v=true
 times:∀(i:Nat) c,m.cells[i]?=some c→0≤c.times∧c.times≤N
 waits:m.waits.length≤6
 wlen:∀(t:Nat) l,m.waits[t]?=some l→l.length≤8
 wval:∀(t:Nat) l,m.waits[t]?=some l→∀x∈l,isWord x.v=true∧0≤x.w∧x.w<4∧0≤x.c∧x.c<m.cells.length∧0≤x.g∧x.g≤N
 N0:0≤N
variable {τ : Ty}{K:Nat→Bool}{w:World}{L:Lay}{m:M}{N:Int}
theorem OkM.setWaits(om:OkM N m){t:Nat}{l:List Wt}(h8:l.length≤8)(hv:∀x∈l,isWord x.v=true∧0≤x.w∧x.w<4∧0≤x.c∧x.c<m.cells.length∧0≤x.g∧x.g≤N):OkM N {m with waits:=m.waits.set t l}:=by
 refine ⟨om.cells1,om.cells,om.words,om.times,by simpa using om.waits,?_,?_,om.N0⟩
 ·intro u k hk;simp only[List.getElem?_set]at hk
  split at hk
  ·split at hk
   ·cases hk;exact h8
   ·cases hk
  ·exact om.wlen u k hk
 ·intro u k hk;simp only[List.getElem?_set]at hk
  split at hk
  ·split at hk
   ·cases hk;exact hv
   ·cases hk
  ·exact om.wval u k hk
end Qh
end
section
namespace Qh
open Go Go.RowKit Qs
theorem flat_congr2{α β : Type}{f:Nat→α→List Value}{g:Nat→β→List Value}:∀(l:List α) (l':List β) (s:Nat),l.length=l'.length→(∀i x y,l[i]?=some x→l'[i]?=some y→f (s+i) x=g (s+i) y)→flat f s l=flat g s l'
 |[],[],_,_,_=>rfl
 |[],_ :: _,_,h,_=>by simp at h
 |_ :: _,[],_,h,_=>by simp at h
 |x :: l,y :: l',s,h,e=>by
  simp only[flat];rw[show f s x=g s y from e 0 x y rfl rfl]
  rw[flat_congr2 l l' (s+1) (by simpa using h) (fun i a b h1 h2=>by
   have:=e (i+1) a b (by simpa using h1) (by simpa using h2)
   rw[show s+1+i=s+(i+1)from by omega];exact this)]
theorem made_flat(z:List Value)(hz:0<z.length)(n:Nat):(madeCells z.toArray (n*z.length)).toList=flat (fun _ (_:Unit)=>z) 0 (List.replicate n ()):=by
 apply List.ext_getElem?;intro i
 have hlen:(flat (fun _ (_:Unit)=>z) 0 (List.replicate n ())).length=n*z.length:=by rw[flat_length _ z.length (fun _ _=>rfl)];simp
 by_cases h:i<n*z.length
 ·have hj:i % z.length<z.length:=Nat.mod_lt _ hz;have hq:i/z.length<n:=(Nat.div_lt_iff_lt_mul hz).2 h;have hg:=flat_get (fun _ (_:Unit)=>z) z.length (fun _ _=>rfl) hj (List.replicate n ()) 0 (i/z.length) () (by simp[hq]) [];rw[List.append_nil,Nat.mul_comm,Nat.div_add_mod]at hg;rw[hg]
  have:(madeCells z.toArray (n*z.length)).toList[i]?=some (z.toArray[i % z.toArray.size]!):=by
   rw[Array.getElem?_toList];simp[madeCells,h]
  rw[this,List.getElem?_eq_getElem hj];simp[hj]
 ·rw[List.getElem?_eq_none (by simp[madeCells];omega),List.getElem?_eq_none (by rw[hlen];omega)]
def newM(n t:Nat):M:=⟨List.replicate n ⟨[0,0,0,0],0,false⟩,List.replicate t [],[],[],0⟩
end Qh
end
section
namespace Qh
open Go Go.RowKit Qs
def acell(_:Nat)(c:Cell):List Value:=[iv (c.words.getD 0 0),iv (c.words.getD 1 0),iv (c.words.getD 2 0),iv (c.words.getD 3 0),iv c.times,.bool c.here]
theorem acell_len(s:Nat)(c:Cell):(acell s c).length=6:=rfl
structure ArenaAt(TA TC:TypeId)(w:World)(b g:Nat)(l:List Cell):Prop where
 top:∃cap,w.heap[b]?=some (.cells #[.slice (some ⟨g,0,none⟩) l.length cap] TA (0,0))
 cells:∃junk,w.heap[g]?=some (.cells (flat acell 0 l++junk).toArray TC (0,0))
 ne:b≠g
variable {TA TC:TypeId}{w w':World}{b g:Nat}{l:List Cell}
theorem ArenaAt.keep{F:Nat→Prop}(h:ArenaAt TA TC w b g l)(hM:Mod F w w')(hb:¬F b)(hg:¬F g):ArenaAt TA TC w' b g l:=
 ⟨h.top.elim fun k e=>⟨k,hM.heap e hb⟩,h.cells.elim fun k e=>⟨k,hM.heap e hg⟩,h.ne⟩
theorem ArenaAt.keep0(h:ArenaAt TA TC w b g l)(hM:Mod noF w w'):ArenaAt TA TC w' b g l:=h.keep hM (fun e=>e) (fun e=>e)
theorem ArenaAt.lt(h:ArenaAt TA TC w b g l):b<w.heap.size∧g<w.heap.size:=⟨h.top.elim fun _ e=>lt_of_block e,h.cells.elim fun _ e=>lt_of_block e⟩
theorem ArenaAt.slice(h:ArenaAt TA TC w b g l):∃k,w.cell? ⟨b,0,none⟩=some (.slice (some ⟨g,0,none⟩) l.length k):=h.top.elim fun k e=>⟨k,(cell_of_heap e 0).trans rfl⟩
theorem ArenaAt.cell(h:ArenaAt TA TC w b g l){i:Nat}{c:Cell}(hi:l[i]?=some c){j:Nat}(hj:j<6):w.cell? ⟨g,i*6+j,none⟩=(acell 0 c)[j]?:=by
 obtain ⟨junk,hc⟩:=h.cells;rw[cell_of_heap hc];have:=flat_get acell 6 acell_len hj l 0 i c hi junk;refine Eq.trans ?_ this;simp
theorem ArenaAt.free(h:ArenaAt TA TC w b g l)(j:Nat):w.frozen? ⟨g,j,none⟩=false:=h.cells.elim fun _ e=>free_of_heap e j
theorem ArenaAt.set(h:ArenaAt TA TC w b g l){i:Nat}{c c':Cell}(hi:l[i]?=some c){j:Nat}(hj:j<6)(v:Value)(e:acell 0 c'=(acell 0 c).set j v):ArenaAt TA TC (w.setCell ⟨g,i*6+j,none⟩ v) b g (l.set i c'):=by
 obtain ⟨cap,ht⟩:=h.top;obtain ⟨junk,hc⟩:=h.cells;refine ⟨⟨cap,?_⟩,⟨junk,?_⟩,h.ne⟩
 ·rw[Qh.heap_setCell_other h.ne,List.length_set];exact ht
 ·rw[Qh.heap_setCell_same hc];have:=flat_set acell 6 acell_len hj v l 0 i c c' hi (by simpa[acell]using e) junk;rw[←this];simp
def givenCell(c:Cell):Cell:=⟨[0,0,0,0],c.times+1,true⟩
theorem ArenaAt.given(h:ArenaAt TA TC w b g l){i:Nat}{c:Cell}(hi:l[i]?=some c) :
  ArenaAt TA TC ((((((w.setCell ⟨g,i*6,none⟩ (.int .i64 0)).setCell ⟨g,i*6+1,none⟩ (.int .i64 0)).setCell ⟨g,i*6+2,none⟩ (.int .i64 0)).setCell ⟨g,i*6+3,none⟩ (.int .i64 0)).setCell ⟨g,i*6+4,none⟩ (.int .i64 (c.times+1))).setCell ⟨g,i*6+5,none⟩ (.bool true)) b g (l.set i (givenCell c)):=by
 have hlt:i<l.length:=(List.getElem?_eq_some_iff.1 hi).1
 have g0:∀x:Cell,(l.set i x)[i]?=some x:=fun x=>by rw[List.getElem?_set];simp[hlt]
 have s0:=h.set hi (j:=0) (by omega) (.int .i64 0) (c':=⟨[0,c.words.getD 1 0,c.words.getD 2 0,c.words.getD 3 0],c.times,c.here⟩) rfl;have s1:=s0.set (g0 _) (j:=1) (by omega) (.int .i64 0) (c':=⟨[0,0,c.words.getD 2 0,c.words.getD 3 0],c.times,c.here⟩) rfl;rw[List.set_set]at s1
 have s2:=s1.set (g0 _) (j:=2) (by omega) (.int .i64 0) (c':=⟨[0,0,0,c.words.getD 3 0],c.times,c.here⟩) rfl;rw[List.set_set]at s2;have s3:=s2.set (g0 _) (j:=3) (by omega) (.int .i64 0) (c':=⟨[0,0,0,0],c.times,c.here⟩) rfl;rw[List.set_set]at s3
 have s4:=s3.set (g0 _) (j:=4) (by omega) (.int .i64 (c.times+1)) (c':=⟨[0,0,0,0],c.times+1,c.here⟩) rfl;rw[List.set_set]at s4;have s5:=s4.set (g0 _) (j:=5) (by omega) (.bool true) (c':=givenCell c) rfl;rw[List.set_set]at s5;exact s5
def freshCell:Cell:=⟨[0,0,0,0],0,false⟩
theorem fresh_flat(n:Nat):(madeCells #[.int .i64 0,.int .i64 0,.int .i64 0,.int .i64 0,.int .i64 0,.bool false] (n*6)).toList=flat acell 0 (List.replicate n freshCell):=by
 have:=made_flat [.int .i64 0,.int .i64 0,.int .i64 0,.int .i64 0,.int .i64 0,.bool false] (by simp) n;refine Eq.trans this ?_;refine flat_congr2 _ _ 0 (by simp) fun i x y h1 h2=>?_;have:=List.eq_of_mem_replicate (List.mem_of_getElem? h2);subst this;rfl
end Qh
end
section
namespace Qh
open Go Go.RowKit Qs
variable {τ : Ty}{K:Nat→Bool}{w w':World}{L L':Lay}{m m':M}{N:Int}
theorem allocAt_found:∀(l:List Cell) (s k:Nat) (c:Cell),l[k]?=some c→c.here=false→(∀j x,j<k→l[j]?=some x→x.here=true)→allocAt l s=some (s+k,c.times)
 |[],_,_,_,h,_,_=>by simp at h
 |x :: l,s,0,c,h,hc,_=>by
  simp at h;subst h;simp[allocAt,hc]
 |x :: l,s,k+1,c,h,hc,hj=>by
  have hx:=hj 0 x (by omega) rfl;simp only[allocAt,hx,if_true];rw[allocAt_found l (s+1) k c (by simpa using h) hc (fun j y hjk hy=>hj (j+1) y (by omega) (by simpa using hy))]
  congr 2;omega
theorem allocAt_none:∀(l:List Cell) (s:Nat),(∀(j:Nat) x,l[j]?=some x→x.here=true)→allocAt l s=none
 |[],_,_=>rfl
 |x :: l,s,h=>by
  have hx:=h 0 x rfl;simp only[allocAt,hx,if_true];exact allocAt_none l (s+1) fun j y hy=>h (j+1) y (by simpa using hy)
def zeroCell(n:Int):Cell:=⟨[0,0,0,0],n,true⟩
end Qh
end
section
namespace Qh
open Go Go.RowKit
variable {P:Program}(w:World)
theorem new_cells(l:List Value)(T:TypeId):∀j u,l[j]?=some u→(w.alloc (.cells l.toArray T)).cell? ((⟨w.heap.size,0,none⟩:Addr).add j)=some u:=by
 intro j u h
 have hadd:(⟨w.heap.size,0,none⟩:Addr).add j=⟨w.heap.size,j,none⟩:=by unfold Addr.add;split <;> simp_all
 rw[hadd,World.cell?_alloc_new]
 simpa using h
theorem ints_one(l:List Int):∀u∈l.map (Value.int .i64),u.oneCell'=true:=by
 intro u hu;obtain ⟨n,_,rfl⟩:=List.mem_map.1 hu;rfl
theorem run_append_mine(t ty e:TypeId)(i:TypeInfo)(z:Value)(size bytes:Nat)(ht:P.underlying t=some (.slice e))(hi:P.info? e=some i)(hz:i.zero=some z)
  (hsize:i.size=size) (hby:i.bytes=bytes) (hzs:z.cells.size=size) (hsz:0<size)
  (v:Value) (n:Nat) (xs:List Value) (hown:w.ownsRow 0 e size v n xs)
  (a:Addr) (m c:Nat) (news:List Value) (hl:news.length=m*size) (hnews:∀j u,news[j]?=some u→w.cell? (a.add j)=some u) (h1:∀u∈news,u.oneCell'=true)
  (h63:n+m≤maxLen) (hbytes:(n+m)*bytes≤140737488355328) :
  ∃v' w',(Builtin.append_ #[t,t] ty #[v,.slice (some a) m c]).run P w=.ok v' w'∧w'.ownsRow 0 e size v' (n+m) (xs++news)∧w.grownBy w' v.ownBlock∧
   (∀g,v'.ownBlock=some g→v.ownBlock=some g∨w.heap.size≤g)∧(v'=.slice none 0 0↔v=.slice none 0 0∧m=0):=by
 rcases hown.2 with ⟨rfl,rfl⟩|⟨g,cap,cur,rfl,hbg,hg,hnc,hcm,hcs,htake⟩
 ·have hown':w.ownsRow w.heap.size e size (.slice none 0 0) 0 xs:=⟨hown.1,.inl ⟨rfl,rfl⟩⟩;obtain ⟨v',w',h2,h3,h4,h5⟩:=run_append_own w w.heap.size t ty e i z size bytes ht hi hz hsize hby hzs hsz _ 0 xs hown' a m c news hl hnews h1 h63 hbytes (Nat.le_refl _)
  refine ⟨v',w',h2,⟨h3.1,?_⟩,h4,fun g hg=>.inr (h3.lt g hg).1,h5⟩
  rcases h3.2 with h|⟨g,cap,cur,e1,_,r⟩
  ·exact .inl h
  ·exact .inr ⟨g,cap,cur,e1,Nat.zero_le _,r⟩
 ·by_cases hroom:n+m≤cap
  ·subst hsize
   have hfit:n*i.size+news.length≤cur.size:=by rw[hl,hcs,←Nat.add_mul];exact Nat.mul_le_mul_right _ hroom
   have hr:=run_append_room (P:=P) w t ty e i ht hi g n cap cur hg a m c news hl hnews h1 hroom hfit;obtain ⟨v',w',h2,h3,h4,h5⟩:=run_append_own w 0 t ty e i z i.size bytes ht hi hz rfl hby hzs hsz _ n xs hown a m c news hl hnews h1 h63 hbytes (Nat.zero_le _);rw[h2]at hr;cases hr
   exact ⟨_,_,h2,h3,h4,fun k hk=>.inl (by simpa[Value.ownBlock]using hk),h5⟩
  ·obtain ⟨v',w',h2,h3,h4,h5⟩:=run_append_own w 0 t ty e i z size bytes ht hi hz hsize hby hzs hsz _ n xs hown a m c news hl hnews h1 h63 hbytes (Nat.zero_le _);have holds:∀j u,xs[j]?=some u→w.cell? ((⟨g,0,none⟩:Addr).add j)=some u:=hown.cells (g:=g) rfl;subst hsize;subst hby
   have hr:=run_append_grow (P:=P) w t ty e i z ht hi hz ⟨g,0,none⟩ n cap xs hown.1 holds a m c news hl hnews (by omega) (by unfold maxLen at h63;omega) (growslice_fits (by omega) hbytes);rw[h2]at hr;cases hr;exact ⟨_,_,h2,h3,h4,fun k hk=>.inr (by simp[Value.ownBlock]at hk;omega),h5⟩
theorem wp_append_mine{o:Oper}{a:Act}{K:Act→World→Prop}{Q:Exit→Act→World→Prop}(s x:Operand)(t:TypeId)
  (ho:o.op=.call {callee:=.builtin .append,args:=#[s,x],argTypes:=#[t,t]})
  (e:TypeId) (i:TypeInfo) (z:Value) (size bytes:Nat) (ht:P.underlying t=some (.slice e)) (hi:P.info? e=some i) (hz:i.zero=some z)
  (hsize:i.size=size) (hby:i.bytes=bytes) (hzs:z.cells.size=size) (hsz:0<size)
  (v:Value) (n:Nat) (xs:List Value) (hs:a.eval s=v) (hown:w.ownsRow 0 e size v n xs)
  (ad:Addr) (m c:Nat) (news:List Value) (hx:a.eval x=.slice (some ad) m c) (hl:news.length=m*size) (hnews:∀j u,news[j]?=some u→w.cell? (ad.add j)=some u) (h1:∀u∈news,u.oneCell'=true)
  (h63:n+m≤maxLen) (hbytes:(n+m)*bytes≤140737488355328)
  (h:∀v' w',w'.ownsRow 0 e size v' (n+m) (xs++news)→w.grownBy w' v.ownBlock→(∀g,v'.ownBlock=some g→v.ownBlock=some g∨w.heap.size≤g)→(v'=.slice none 0 0↔v=.slice none 0 0∧m=0)→K (a.put o.dst v') w'):o.wp P a w K Q:=by
 obtain ⟨v',w',hr,h2,h3,h4,h5⟩:=run_append_mine (P:=P) w t o.type e i z size bytes ht hi hz hsize hby hzs hsz v n xs hown ad m c news hl hnews h1 h63 hbytes;unfold Oper.wp execOp
 simp only[ho,resolve,invoke,builtin,Sem.run_bind,Sem.run_pure,Result.andThen_ok,List.map_toArray,List.map_cons,List.map_nil,hs,hx,hr];exact h v' w' h2 h3 h4 h5
theorem wpList_append_mine{ops:Array Oper}{rest:List Oper}{o:Oper}{a:Act}{Q:Exit→Act→World→Prop}(hgd:o.guard=none)(s x:Operand)(t:TypeId)
  (ho:o.op=.call {callee:=.builtin .append,args:=#[s,x],argTypes:=#[t,t]})
  (e:TypeId) (i:TypeInfo) (z:Value) (size bytes:Nat) (ht:P.underlying t=some (.slice e)) (hi:P.info? e=some i) (hz:i.zero=some z)
  (hsize:i.size=size) (hby:i.bytes=bytes) (hzs:z.cells.size=size) (hsz:0<size)
  (v:Value) (n:Nat) (xs:List Value) (hs:a.eval s=v) (hown:w.ownsRow 0 e size v n xs)
  (ad:Addr) (m c:Nat) (news:List Value) (hx:a.eval x=.slice (some ad) m c) (hl:news.length=m*size) (hnews:∀j u,news[j]?=some u→w.cell? (ad.add j)=some u) (h1:∀u∈news,u.oneCell'=true)
  (h63:n+m≤maxLen) (hbytes:(n+m)*bytes≤140737488355328)
  (h:∀v' w',w'.ownsRow 0 e size v' (n+m) (xs++news)→w.grownBy w' v.ownBlock→(∀g,v'.ownBlock=some g→v.ownBlock=some g∨w.heap.size≤g)→(v'=.slice none 0 0↔v=.slice none 0 0∧m=0)→wpList P ops Q rest (a.put o.dst v') w'):wpList P ops Q (o :: rest) a w:=
 wpList_plain hgd fun _ hK=>wp_append_mine w s x t ho e i z size bytes ht hi hz hsize hby hzs hsz v n xs hs hown ad m c news hx hl hnews h1 h63 hbytes fun v' w' h2 h3 h4 h5=>hK _ _ (h v' w' h2 h3 h4 h5)
theorem step_append_mine{ops:Array Oper}{o:Oper}{a:Act}{K:Act→World→Prop}{Q:Exit→Act→World→Prop}{E:Prop}(hgd:o.guard=none)(s x:Operand)(t:TypeId)
  (ho:o.op=.call {callee:=.builtin .append,args:=#[s,x],argTypes:=#[t,t]})
  (e:TypeId) (i:TypeInfo) (z:Value) (size bytes:Nat) (ht:P.underlying t=some (.slice e)) (hi:P.info? e=some i) (hz:i.zero=some z)
  (hsize:i.size=size) (hby:i.bytes=bytes) (hzs:z.cells.size=size) (hsz:0<size)
  (v:Value) (n:Nat) (xs:List Value) (hs:a.eval s=v) (hown:w.ownsRow 0 e size v n xs)
  (ad:Addr) (m c:Nat) (news:List Value) (hx:a.eval x=.slice (some ad) m c) (hl:news.length=m*size) (hnews:∀j u,news[j]?=some u→w.cell? (ad.add j)=some u) (h1:∀u∈news,u.oneCell'=true)
  (h63:n+m≤maxLen) (hbytes:(n+m)*bytes≤140737488355328)
  (h:∀v' w',w'.ownsRow 0 e size v' (n+m) (xs++news)→w.grownBy w' v.ownBlock→(∀g,v'.ownBlock=some g→v.ownBlock=some g∨w.heap.size≤g)→(v'=.slice none 0 0↔v=.slice none 0 0∧m=0)→K (a.put o.dst v') w') :
  if Region.wanted o (yielded ops a.tmps)=true then Oper.wp P o a w K Q else E:=by
 have hw:Region.wanted o (yielded ops a.tmps)=true:=by simp[Region.wanted,hgd]
 rw[if_pos hw];exact wp_append_mine w s x t ho e i z size bytes ht hi hz hsize hby hzs hsz v n xs hs hown ad m c news hx hl hnews h1 h63 hbytes h
end Qh
end
section
namespace Qh
open Go Go.RowKit
variable {P:Program}{w w':World}
def offRow(w:World)(e:TypeId)(size:Nat)(v:Value)(n:Nat)(xs:List Value):Prop:=
 xs.length=n*size∧((v=.slice none 0 0∧n=0)∨
  ∃g s cap cur,v=.slice (some ⟨g,s,none⟩) n cap∧w.heap[g]?=some (.cells cur e (0,0))∧n≤cap∧cap≤maxLen∧s+cap*size≤cur.size∧(cur.toList.drop s).take (n*size)=xs)
theorem offRow_nil(w:World)(e:TypeId)(size:Nat):offRow w e size (.slice none 0 0) 0 []:=⟨by simp,.inl ⟨rfl,rfl⟩⟩
theorem offRow.keep{e:TypeId}{size n:Nat}{v:Value}{xs:List Value}{F:Nat→Prop}(h:offRow w e size v n xs)(hM:Mod F w w')(hF:∀g,v.ownBlock=some g→¬F g):offRow w' e size v n xs:=by
 refine ⟨h.1,?_⟩
 rcases h.2 with e|⟨g,s,cap,cur,rfl,hg,r⟩
 ·exact .inl e
 ·exact .inr ⟨g,s,cap,cur,rfl,hM.heap hg (hF g rfl),r⟩
theorem offRow.lt{e:TypeId}{size n:Nat}{v:Value}{xs:List Value}(h:offRow w e size v n xs):∀g,v.ownBlock=some g→g<w.heap.size:=by
 intro g hg
 rcases h.2 with ⟨rfl,_⟩|⟨g',s,cap,cur,rfl,hg',r⟩
 ·simp[Value.ownBlock]at hg
 ·simp[Value.ownBlock]at hg;subst hg;exact lt_of_block hg'
theorem offRow.slice{e:TypeId}{size n:Nat}{v:Value}{xs:List Value}(h:offRow w e size v n xs):∃a c,v=.slice a n c∧n≤c∧c≤maxLen:=by
 rcases h.2 with ⟨rfl,rfl⟩|⟨g,s,cap,cur,rfl,_,h1,h2,_⟩
 ·exact ⟨none,0,rfl,Nat.le_refl _,Nat.zero_le _⟩
 ·exact ⟨_,_,rfl,h1,h2⟩
theorem offRow.cell{e:TypeId}{size n:Nat}{v:Value}{xs:List Value}(h:offRow w e size v n xs)(hn:0<n) :
  ∃g s c,v=.slice (some ⟨g,s,none⟩) n c∧g<w.heap.size∧(∀j,w.frozen? ⟨g,j,none⟩=false)∧∀j u,xs[j]?=some u→w.cell? ⟨g,s+j,none⟩=some u:=by
 rcases h.2 with ⟨rfl,h0⟩|⟨g,s,cap,cur,rfl,hg,h1,h2,h3,h4⟩
 ·omega
 ·refine ⟨g,s,cap,rfl,lt_of_block hg,fun j=>free_of_heap hg j,fun j u hu=>?_⟩;rw[cell_of_heap hg];rw[←h4,List.getElem?_take]at hu
  split at hu
  ·rw[List.getElem?_drop]at hu;simpa using hu
  ·cases hu
theorem offRow.tail{e:TypeId}{size n:Nat}{g s c:Nat}{xs:List Value}(h:offRow w e size (.slice (some ⟨g,s,none⟩) (n+1) c) (n+1) xs) :
  offRow w e size (.slice (if c=1 then some ⟨g,s,none⟩else some ⟨g,s+size,none⟩) n (c - 1)) n (xs.drop size):=by
 refine ⟨by rw[List.length_drop,h.1,Nat.add_mul];omega,?_⟩
 rcases h.2 with ⟨h0,_⟩|⟨g',s',cap,cur,e1,hg,h1,h2,h3,h4⟩
 ·cases h0
 ·simp only[Value.slice.injEq,Option.some.injEq,Addr.mk.injEq,and_true,true_and]at e1;obtain ⟨⟨rfl,rfl⟩,rfl⟩:=e1;right
  by_cases hc:c=1
  ·subst hc
   obtain rfl:n=0:=by omega
   refine ⟨g,s,0,cur,by simp,hg,Nat.le_refl _,by omega,by omega,?_⟩;have:=h.1;simp at this;simp[←this]
  ·refine ⟨g,s+size,c - 1,cur,by simp[hc],hg,by omega,by omega,?_,?_⟩
   ·have:c*size=(c - 1)*size+size:=by
     conv=>lhs;rw[show c=(c - 1)+1 by omega,Nat.add_mul,Nat.one_mul]
    omega
   ·rw[←h4,List.drop_take,List.drop_drop]
    congr 1
    rw[Nat.add_mul];omega
theorem run_append_off(w:World)(t ty e:TypeId)(i:TypeInfo)(z:Value)(size bytes:Nat)(ht:P.underlying t=some (.slice e))(hi:P.info? e=some i)(hz:i.zero=some z)
  (hsize:i.size=size) (hby:i.bytes=bytes) (hzs:z.cells.size=size) (hsz:0<size)
  (v:Value) (n:Nat) (xs:List Value) (hown:offRow w e size v n xs)
  (a:Addr) (m c:Nat) (news:List Value) (hl:news.length=m*size) (hnews:∀j u,news[j]?=some u→w.cell? (a.add j)=some u) (h1:∀u∈news,u.oneCell'=true)
  (h63:n+m≤maxLen) (hbytes:(n+m)*bytes≤140737488355328) (hm0:0<m) :
  ∃v' w',(Builtin.append_ #[t,t] ty #[v,.slice (some a) m c]).run P w=.ok v' w'∧offRow w' e size v' (n+m) (xs++news)∧w.grownBy w' v.ownBlock∧
   (∀g,v'.ownBlock=some g→v.ownBlock=some g∨w.heap.size≤g):=by
 subst hsize;subst hby
 have hlen:(xs++news).length=(n+m)*i.size:=by rw[List.length_append,hown.1,hl,Nat.add_mul]
 have grown:∀(old:Nat),old<n+m→∀(row:Option Nat),
   offRow (w.drew.alloc (.cells (xs.toArray++news.toArray++Builtin.zeroCells z.cells (grownCap w (n+m) old e - (n+m))) e)) e i.size
    (.slice (some ⟨w.heap.size,0,none⟩) (n+m) (grownCap w (n+m) old e)) (n+m) (xs++news)∧
   w.grownBy (w.drew.alloc (.cells (xs.toArray++news.toArray++Builtin.zeroCells z.cells (grownCap w (n+m) old e - (n+m))) e)) row:=by
  intro old ho row;have hge:=grownCap_ge w (n+m) old e;have hcm:grownCap w (n+m) old e≤maxLen:=grownCap_le_maxLen w (n+m) old e h63;refine ⟨⟨hlen,.inr ⟨w.heap.size,0,_,_,rfl,heap_alloc_new w.drew _,hge,hcm,?_,?_⟩⟩,⟨rfl,rfl,rfl,by simp,fun k hk _=>heap_alloc_old w.drew _ k hk⟩⟩
  ·have hs:(xs.toArray++news.toArray++Builtin.zeroCells z.cells (grownCap w (n+m) old e - (n+m))).size=grownCap w (n+m) old e*i.size:=by
    simp only[Array.size_append,List.size_toArray,size_zeroCells,hzs,hown.1,hl,←Nat.add_mul]
    congr 1
    omega
   omega
  ·simp only[Array.toList_append,List.append_assoc,List.drop_zero];rw[←List.append_assoc,←hlen];exact List.take_left
 rcases hown.2 with ⟨rfl,rfl⟩|⟨g,s,cap,cur,rfl,hg,hnc,hcm,hcs,htake⟩
 ·have hx:xs=[]:=List.eq_nil_of_length_eq_zero (by simpa using hown.1);subst hx;have hr:=run_append_nil (P:=P) w t ty e i z ht hi hz a m c news hl hnews (by omega) (by unfold maxLen at h63;omega) (by have hb:=hbytes;simp only[Nat.zero_add]at hb;omega)
  have hgr:=grown 0 (by omega) (Value.ownBlock (.slice none 0 0));simp only[Nat.zero_add,List.nil_append,Array.empty_append]at hgr ⊢;exact ⟨_,_,hr,hgr.1,hgr.2,fun k hk=>.inr (by simp[Value.ownBlock]at hk;omega)⟩
 ·by_cases hroom:n+m≤cap
  ·have hmul:(n+m)*i.size≤cap*i.size:=Nat.mul_le_mul_right _ hroom;rw[Nat.add_mul]at hmul;have hf:=run_firstCells_some (P:=P) w i.size m a m c news hl hnews;have hst:=run_storeCells_at P g (s+n*i.size) e news 0 cur w hg (by rw[Nat.add_zero];omega) h1;simp only[Nat.add_zero]at hst
   have hr:(Builtin.append_ #[t,t] ty #[.slice (some ⟨g,s,none⟩) n cap,.slice (some a) m c]).run P w=.ok (.slice (some ⟨g,s,none⟩) (n+m) cap) (w.setRow g (cur.toList.take (s+n*i.size)++news++cur.toList.drop (s+n*i.size+news.length)).toArray):=by
    simp[Builtin.append_,run_underlying ht,Go.sizeOf,Go.typeInfo,hi,Builtin.lenOf,hroom,hf,Addr.add_lit,hst]
   refine ⟨_,_,hr,⟨hlen,.inr ⟨g,s,cap,_,rfl,setRow_heap w g cur _ e _ hg,hroom,hcm,?_,?_⟩⟩,⟨rfl,rfl,rfl,by simp,fun k _ hk=>setRow_other w g k _ (fun e=>hk (by simp[Value.ownBlock,e]))⟩,fun k hk=>.inl (by simpa[Value.ownBlock]using hk)⟩
   ·simp only[List.size_toArray,List.length_append,List.length_take,List.length_drop,Array.length_toList];omega
   ·have hsz2:s+n*i.size≤cur.toList.length:=by simp;omega
    have e1:(cur.toList.take (s+n*i.size)++news++cur.toList.drop (s+n*i.size+news.length)).drop s=xs++(news++cur.toList.drop (s+n*i.size+news.length)):=by
     rw[List.append_assoc,List.drop_append_of_le_length (by rw[List.length_take];omega),←htake]
     congr 1
     rw[List.drop_take]
     congr 1
     omega
    show List.take ((n+m)*i.size) (List.drop s (cur.toList.take (s+n*i.size)++news++cur.toList.drop (s+n*i.size+news.length)))=xs++news;rw[e1,←List.append_assoc,←hlen];exact List.take_left
  ·have hx0:0<n∨n=0:=by omega
   have holds:∀j u,xs[j]?=some u→w.cell? ((⟨g,s,none⟩:Addr).add j)=some u:=by
    intro j u hu;have hjl:=(List.getElem?_eq_some_iff.1 hu).1
    have hn:0<n:=by
     rcases hx0 with h|h
     ·exact h
     ·rw[hown.1,h]at hjl;simp at hjl
    obtain ⟨g',s',c',e',_,_,hc'⟩:=hown.cell hn;simp only[Value.slice.injEq,Option.some.injEq,Addr.mk.injEq,and_true,true_and]at e';obtain ⟨⟨rfl,rfl⟩,rfl⟩:=e';rw[Addr.add_lit];exact hc' j u hu
   have hr:=run_append_grow (P:=P) w t ty e i z ht hi hz ⟨g,s,none⟩ n cap xs hown.1 holds a m c news hl hnews (by omega) (by unfold maxLen at h63;omega) (growslice_fits (by omega) hbytes);have hgr:=grown cap (by omega) (Value.ownBlock (.slice (some ⟨g,s,none⟩) n cap))
   exact ⟨_,_,hr,hgr.1,hgr.2,fun k hk=>.inr (by simp[Value.ownBlock]at hk;omega)⟩
theorem wp_append_off{o:Oper}{a:Act}{K:Act→World→Prop}{Q:Exit→Act→World→Prop}(s x:Operand)(t:TypeId)
  (ho:o.op=.call {callee:=.builtin .append,args:=#[s,x],argTypes:=#[t,t]})
  (e:TypeId) (i:TypeInfo) (z:Value) (size bytes:Nat) (ht:P.underlying t=some (.slice e)) (hi:P.info? e=some i) (hz:i.zero=some z)
  (hsize:i.size=size) (hby:i.bytes=bytes) (hzs:z.cells.size=size) (hsz:0<size)
  (v:Value) (n:Nat) (xs:List Value) (hs:a.eval s=v) (hown:offRow w e size v n xs)
  (ad:Addr) (m c:Nat) (news:List Value) (hx:a.eval x=.slice (some ad) m c) (hl:news.length=m*size) (hnews:∀j u,news[j]?=some u→w.cell? (ad.add j)=some u) (h1:∀u∈news,u.oneCell'=true)
  (h63:n+m≤maxLen) (hbytes:(n+m)*bytes≤140737488355328) (hm0:0<m)
  (h:∀v' w',offRow w' e size v' (n+m) (xs++news)→w.grownBy w' v.ownBlock→(∀g,v'.ownBlock=some g→v.ownBlock=some g∨w.heap.size≤g)→K (a.put o.dst v') w'):o.wp P a w K Q:=by
 obtain ⟨v',w',hr,h2,h3,h4⟩:=run_append_off (P:=P) w t o.type e i z size bytes ht hi hz hsize hby hzs hsz v n xs hown ad m c news hl hnews h1 h63 hbytes hm0;unfold Oper.wp execOp
 simp only[ho,resolve,invoke,builtin,Sem.run_bind,Sem.run_pure,Result.andThen_ok,List.map_toArray,List.map_cons,List.map_nil,hs,hx,hr];exact h v' w' h2 h3 h4
theorem step_append_off{ops:Array Oper}{o:Oper}{a:Act}{K:Act→World→Prop}{Q:Exit→Act→World→Prop}{E:Prop}(hgd:o.guard=none)(s x:Operand)(t:TypeId)
  (ho:o.op=.call {callee:=.builtin .append,args:=#[s,x],argTypes:=#[t,t]})
  (e:TypeId) (i:TypeInfo) (z:Value) (size bytes:Nat) (ht:P.underlying t=some (.slice e)) (hi:P.info? e=some i) (hz:i.zero=some z)
  (hsize:i.size=size) (hby:i.bytes=bytes) (hzs:z.cells.size=size) (hsz:0<size)
  (v:Value) (n:Nat) (xs:List Value) (hs:a.eval s=v) (hown:offRow w e size v n xs)
  (ad:Addr) (m c:Nat) (news:List Value) (hx:a.eval x=.slice (some ad) m c) (hl:news.length=m*size) (hnews:∀j u,news[j]?=some u→w.cell? (ad.add j)=some u) (h1:∀u∈news,u.oneCell'=true)
  (h63:n+m≤maxLen) (hbytes:(n+m)*bytes≤140737488355328) (hm0:0<m)
  (h:∀v' w',offRow w' e size v' (n+m) (xs++news)→w.grownBy w' v.ownBlock→(∀g,v'.ownBlock=some g→v.ownBlock=some g∨w.heap.size≤g)→K (a.put o.dst v') w') :
  if Region.wanted o (yielded ops a.tmps)=true then Oper.wp P o a w K Q else E:=by
 have hw:Region.wanted o (yielded ops a.tmps)=true:=by simp[Region.wanted,hgd]
 rw[if_pos hw];exact wp_append_off s x t ho e i z size bytes ht hi hz hsize hby hzs hsz v n xs hs hown ad m c news hx hl hnews h1 h63 hbytes hm0 h
theorem flat_wt_snoc(x:Qs.Wt):∀(l:List Qs.Wt) (s:Nat),flat wtVals s (l++[x])=flat wtVals s l++[.int .i64 x.c,.int .i64 x.g,.int .i64 x.w,.int .i64 x.v]
 |[],s=>rfl
 |y :: l,s=>by simp[flat,flat_wt_snoc x l]
end Qh
end
section
namespace Qh
open Go Go.RowKit Qs
variable {τ : Ty}{K:Nat→Bool}{w w':World}{L L':Lay}{m m':M}{N:Int}
section
variable (L:Lay)(k i b:Nat)(nl:Bool)(s:Nat)(jk:List Value)(a j n:Nat)
end
theorem slice_of_own{w:World}{b:Nat}{e:TypeId}{size:Nat}{v:Value}{n:Nat}{xs:List Value}(h:w.ownsRow b e size v n xs):∃a c d,v=.slice a c d:=by
 rcases h.2 with ⟨rfl,_⟩|⟨g,cap,cur,rfl,_⟩
 ·exact ⟨_,_,_,rfl⟩
 ·exact ⟨_,_,_,rfl⟩
end Qh
end
section
namespace Qh
open Go Go.RowKit Qs
variable {τ : Ty}{K:Nat→Bool}{w w':World}{L L':Lay}{m m':M}{N:Int}
theorem modify_get{α : Type}{l:List α}{t:Nat}{a : α}(f : α→α)(h:l[t]?=some a):l.modify t f=l.set t (f a):=by
 apply List.ext_getElem?;intro i;rw[List.getElem?_modify,List.getElem?_set];obtain ⟨hlt,hv⟩:=List.getElem?_eq_some_iff.1 h
 by_cases e:t=i
 ·subst e;rw[if_pos rfl];simp[hlt,hv]
 ·simp[e]
theorem flat_one:∀(l:List Wt) (s:Nat),∀u∈flat wtVals s l,u.oneCell'=true
 |[],_,u,h=>by simp[flat]at h
 |x :: l,s,u,h=>by
  simp only[flat,List.mem_append]at h
  rcases h with h|h
  ·simp[wtVals]at h;rcases h with rfl|rfl|rfl|rfl <;> rfl
  ·exact flat_one l (s+1) u h
theorem flat_wt_start:∀(l:List Wt) (s s':Nat),flat wtVals s l=flat wtVals s' l
 |[],_,_=>rfl
 |x :: l,s,s'=>by simp only[flat];rw[flat_wt_start l (s+1) (s'+1)];rfl
end Qh
end
section
namespace Qh
open Go Go.RowKit Qs
variable {m:M}{N:Int}
theorem setWord_get(l:List Cell)(i j:Nat)(v:Int)(k:Nat):(Qs.setWord l i j v)[k]?=(l[k]?).map fun c=>if i=k then {c with words:=c.words.set j v}else c:=by
 unfold Qs.setWord;rw[List.getElem?_modify]
 cases l[k]? with
 |none=>simp
 |some c=>by_cases e:i=k <;> simp[e]
theorem setWord_length(l:List Cell)(i j:Nat)(v:Int):(Qs.setWord l i j v).length=l.length:=by simp[Qs.setWord]
theorem drain1_length(l:List Cell)(x:Wt):(drain1 l x).1.length=l.length:=by
 unfold drain1
 split
 ·exact setWord_length _ _ _ _
 ·rfl
theorem drain1_get(l:List Cell)(x:Wt)(k:Nat)(c:Cell)(h:(drain1 l x).1[k]?=some c):∃c0,l[k]?=some c0∧c.times=c0.times∧c.here=c0.here∧(c.words=c0.words∨c.words=c0.words.set x.w.toNat x.v):=by
 unfold drain1 at h
 split at h
 ·simp only[setWord_get]at h
  cases h':l[k]? with
  |none=>rw[h']at h;simp at h
  |some c0=>
   rw[h']at h;simp only[Option.map_some,Option.some.injEq]at h;subst h;refine ⟨c0,rfl,?_⟩
   by_cases e:x.c.toNat=k <;> simp[e]
 ·exact ⟨c,h,rfl,rfl,.inl rfl⟩
theorem OkM.drain1(om:OkM N m){x:Wt}(hv:isWord x.v=true):OkM N {m with cells:=(drain1 m.cells x).1}:=by
 refine ⟨by simpa[drain1_length]using om.cells1,by simpa[drain1_length]using om.cells,?_,?_,om.waits,om.wlen,?_,om.N0⟩
 ·intro k c hc;obtain ⟨c0,h0,_,_,hw⟩:=drain1_get _ _ _ _ hc;obtain ⟨h1,h2⟩:=om.words k c0 h0
  rcases hw with hw|hw
  ·rw[hw];exact ⟨h1,h2⟩
  ·rw[hw];refine ⟨by simpa using h1,fun v hvm=>?_⟩
   rcases List.mem_or_eq_of_mem_set hvm with h|h
   ·exact h2 v h
   ·rw[h];exact hv
 ·intro k c hc;obtain ⟨c0,h0,ht,_,_⟩:=drain1_get _ _ _ _ hc;rw[ht];exact om.times k c0 h0
 ·intro t l hl x' hx';have:=om.wval t l hl x' hx'
  simpa[drain1_length]using this
theorem drainAll_cons(l:List Cell)(x:Wt)(a:List Wt):drainAll l (x :: a)=((drainAll (drain1 l x).1 a).1,(drainAll (drain1 l x).1 a).2+(drain1 l x).2.toNat):=by
 simp only[drainAll,Prod.mk.injEq,true_and];cases (drain1 l x).2 <;> rfl
theorem drainAll_snoc(l:List Cell)(a:List Wt)(x:Wt):drainAll l (a++[x])=((drain1 (drainAll l a).1 x).1,(drainAll l a).2+(drain1 (drainAll l a).1 x).2.toNat):=by
 induction a generalizing l with
 |nil=>rw[List.nil_append,drainAll_cons];simp[drainAll]
 |cons y a ih=>
  rw[List.cons_append,drainAll_cons,ih,drainAll_cons];simp only[Prod.mk.injEq,true_and];omega
theorem drainAll_ok(a:List Wt):∀ {m:M},OkM N m→(∀x∈a,isWord x.v=true)→OkM N {m with cells:=(drainAll m.cells a).1}:=by
 induction a with
 |nil=>intro m om _;exact om
 |cons y a ih=>
  intro m om h;exact ih (om.drain1 (h y (by simp))) (fun x hx=>h x (by simp[hx]))
theorem drainAll_le(a:List Wt):∀l,(drainAll l a).2≤a.length:=by
 induction a with
 |nil=>intro l;exact Nat.le_refl _
 |cons y a ih=>
  intro l;simp only[drainAll,List.length_cons];have:=ih (drain1 l y).1
  split <;> omega
theorem drain1_bad(l:List Cell)(x:Wt):(drain1 l x).2 = !hereIn l x.c x.g:=by
 unfold drain1;cases h:hereIn l x.c x.g <;> simp
end Qh
end
section
namespace Qh
open Go Go.RowKit Qs
def lowB(c:UInt8):Bool:=decide (97≤c.toNat)&&decide (c.toNat≤122)
def chB(c:UInt8):Bool:=lowB c||(decide (48≤c.toNat)&&decide (c.toNat≤57))||decide (c.toNat=46)
def nameB:List UInt8→Bool
 |[]=>false
 |c :: l=>decide (l.length<12)&&lowB c&&(c :: l).all chB
theorem nameB_len{l:List UInt8}(h:12<l.length):nameB l=false:=by
 cases l with
 |nil=>rfl
 |cons c l=>simp only[nameB];rw[decide_eq_false (by simp at h;omega)];rfl
theorem nameB_first{l:List UInt8}{c:UInt8}(h0:l[0]?=some c)(h:lowB c=false):nameB l=false:=by
 cases l with
 |nil=>rfl
 |cons d l=>simp at h0;subst h0;simp[nameB,h]
theorem nameB_ch{l:List UInt8}{c:UInt8}{i:Nat}(h0:l[i]?=some c)(h:chB c=false):nameB l=false:=by
 cases l with
 |nil=>rfl
 |cons d l=>
  have:(d :: l).all chB=false:=List.all_eq_false.2 ⟨c,List.mem_of_getElem? h0,by rw[h];decide⟩;simp only[nameB,this,Bool.and_false]
theorem nameB_yes{l:List UInt8}{c:UInt8}(h0:l[0]?=some c)(h:lowB c=true)(hl:l.length≤12)(ha:∀(i:Nat) d,l[i]?=some d→chB d=true):nameB l=true:=by
 cases l with
 |nil=>simp at h0
 |cons d l=>
  simp at h0;subst h0
  have:(d :: l).all chB=true:=List.all_eq_true.2 fun x hx=>by
   obtain ⟨i,hi⟩:=List.getElem?_of_mem hx;exact ha i x hi
  simp only[nameB,this,h,Bool.and_true];simp at hl;exact decide_eq_true (by omega)
theorem bytes_get(s:ByteArray)(i:Nat)(h:i<s.size):s.data.toList[i]?=some s[i]:=by
 rw[List.getElem?_eq_getElem (by simpa using h)];rfl
theorem bytes_len(s:ByteArray):s.data.toList.length=s.size:=by simp
theorem chB_true{c:UInt8}(h:(97≤(c.toNat:Int)∧(c.toNat:Int)≤122)∨(48≤(c.toNat:Int)∧(c.toNat:Int)≤57)∨(c.toNat:Int)=46):chB c=true:=by
 unfold chB lowB;simp only[Bool.or_eq_true,Bool.and_eq_true,decide_eq_true_eq];omega
theorem chB_false{c:UInt8}(h:¬((97≤(c.toNat:Int)∧(c.toNat:Int)≤122)∨(48≤(c.toNat:Int)∧(c.toNat:Int)≤57)∨(c.toNat:Int)=46)):chB c=false:=by
 rw[←Bool.not_eq_true];unfold chB lowB;simp only[Bool.or_eq_true,Bool.and_eq_true,decide_eq_true_eq];omega
theorem ch_step{s:ByteArray}{k:Nat}(hlt:k<s.size)(Hall:∀(j:Nat) d,j<k→s.data.toList[j]?=some d→chB d=true)(h:chB s[k]=true):∀(j:Nat) d,j<k+1→s.data.toList[j]?=some d→chB d=true:=by
 intro j d hj hd
 by_cases e:j=k
 ·subst e;rw[bytes_get s j hlt]at hd;cases hd;exact h
 ·exact Hall j d (by omega) hd
end Qh
end
namespace Go.Proofs.YtciaficoeajeaaaGreatDoor
section
open Go
theorem cardMain : Tryz.pinned.checked.prog.mainIs = some (((true, "f3f0b699d4c0f6d830ceaaad620d2c695ac369f0019a723d93969ca32a1cb32c") : Bool × String).1, ((true, "f3f0b699d4c0f6d830ceaaad620d2c695ac369f0019a723d93969ca32a1cb32c") : Bool × String).2.toList) := by kernel_rfl
theorem cardLooks:true = Tryz.pinned.checked.prog.looks []:=by kernel_rfl
end
end Go.Proofs.YtciaficoeajeaaaGreatDoor
