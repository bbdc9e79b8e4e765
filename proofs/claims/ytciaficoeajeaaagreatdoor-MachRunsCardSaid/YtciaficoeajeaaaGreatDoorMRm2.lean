/- Texts that belong together, joined. -/
import Derived.Below
import Derived.OneCell
import Derived.Laws.NewBlocks
import Derived.Calls
import Derived.Deep.Quiet
import Derived.Test.YtciaficoeajeaaaGreatDoorMRModel
import Derived.Laws.MakeOwn
import Derived.Laws.OwnMore
import Derived.Deep.RegionLaw
import Derived.Laws.CopyRow
import Derived.Lib.Strings
import Derived.IntWalk
import Derived.Deep.RegionHeld
import Derived.Laws.CopyOwn
import Derived.Test.YtciaficoeajeaaaGreatDoorRows
import Derived.KernelRfl
import Derived.SevenTiedAt
set_option linter.unusedVariables false
set_option linter.unusedSimpArgs false
set_option linter.unusedSectionVars false
section
namespace Qh
open Go Go.RowKit Qs
theorem ret_int{k:IntKind}{a b:Int}(h:a=b):Ending.returned (.int k a)=.returned (.int k b):=by rw[h]
theorem ret_pair{k:IntKind}{a b:Int}{v:Value}(h:a=b):Ending.returned (.tuple #[.int k a,v])=.returned (.tuple #[.int k b,v]):=by rw[h]
theorem ret_bool{a b:Bool}(h:a=b):Ending.returned (.bool a)=.returned (.bool b):=by rw[h]
structure Mod(F:Nat→Prop)(w w':World):Prop where
 os:w'.os=w.os
 tape:w'.tape=w.tape
 output:w'.output=w.output
 size:w.heap.size≤w'.heap.size
 block:∀k,k<w.heap.size→¬F k→w'.heap[k]?=w.heap[k]?
def noF:Nat→Prop:=fun _=>False
theorem Mod.refl(F:Nat→Prop)(w:World):Mod F w w:=⟨rfl,rfl,rfl,Nat.le_refl _,fun _ _ _=>rfl⟩
theorem Mod.trans{F G:Nat→Prop}{a b c:World}(h:Mod F a b)(k:Mod G b c)(hG:∀x,x<a.heap.size→G x→F x):Mod F a c:=
 ⟨k.os.trans h.os,k.tape.trans h.tape,k.output.trans h.output,Nat.le_trans h.size k.size,fun i hi hf=>(k.block i (Nat.lt_of_lt_of_le hi h.size) (fun e=>hf (hG i hi e))).trans (h.block i hi hf)⟩
theorem Mod.trans0{F:Nat→Prop}{a b c:World}(h:Mod F a b)(k:Mod noF b c):Mod F a c:=h.trans k fun _ _ e=>e.elim
theorem Mod.mono{F G:Nat→Prop}{w w':World}(h:Mod F w w')(hF:∀x,x<w.heap.size→F x→G x):Mod G w w':=
 ⟨h.os,h.tape,h.output,h.size,fun k hk hg=>h.block k hk (fun e=>hg (hF k hk e))⟩
theorem Mod.any{F:Nat→Prop}{w w':World}(h:Mod noF w w'):Mod F w w':=h.mono fun _ _ e=>e.elim
theorem Mod.alloc{F:Nat→Prop}{a w:World}(h:Mod F a w)(o:Obj):Mod F a (w.alloc o):=
 ⟨h.os,h.tape,h.output,by have:=h.size;simp;omega,fun k hk hf=>(Below.heap_alloc w o k (Nat.lt_of_lt_of_le hk h.size)).trans (h.block k hk hf)⟩
theorem Mod.drew{F:Nat→Prop}{a w:World}(h:Mod F a w):Mod F a w.drew:=⟨h.os,h.tape,h.output,h.size,h.block⟩
theorem Mod.drewN{F:Nat→Prop}{a w:World}(h:Mod F a w)(n:Nat):Mod F a (w.drewN n):=⟨h.os,h.tape,h.output,h.size,h.block⟩
theorem Mod.setCell{F:Nat→Prop}{a w:World}(h:Mod F a w){p:Addr}(hp:p.block<a.heap.size→F p.block)(u:Value):Mod F a (w.setCell p u):=
 ⟨h.os,h.tape,h.output,by have:=h.size;simp[World.setCell];omega,fun k hk hf=>(Below.heap_setCell w p u k (fun e=>hf (by subst e;exact hp hk))).trans (h.block k hk hf)⟩
theorem Mod.grown{F:Nat→Prop}{a w w':World}{row:Option Nat}(h:Mod F a w)(hg:w.grownBy w' row)(hr:∀k,row=some k→k<a.heap.size→F k):Mod F a w':=
 ⟨hg.os.trans h.os,hg.tape.trans h.tape,hg.output.trans h.output,Nat.le_trans h.size hg.size,
  fun k hk hf=>(hg.block k (Nat.lt_of_lt_of_le hk h.size) (fun e=>hf (hr k e.symm hk))).trans (h.block k hk hf)⟩
theorem Mod.below{w w':World}(h:Below w.heap.size w w'):Mod noF w w':=⟨h.os,h.tape,h.output,h.size,fun k hk _=>h.block k hk⟩
theorem Mod.toBelow{w w':World}(h:Mod noF w w'):Below w.heap.size w w':=⟨h.os,h.tape,h.output,h.size,fun k hk=>h.block k hk (fun e=>e.elim)⟩
theorem Mod.under{F:Nat→Prop}{w w':World}{B:Nat}(h:Mod F w w')(hB:B≤w.heap.size)(hF:∀k,F k→B≤k):Below B w w':=
 ⟨h.os,h.tape,h.output,h.size,fun k hk=>h.block k (by omega) (fun e=>by have:=hF k e;omega)⟩
theorem Mod.cell{F:Nat→Prop}{w w':World}(h:Mod F w w'){a:Addr}{v:Value}(hc:w.cell? a=some v)(hf:¬F a.block):w'.cell? a=some v:=
 (World.cell?_of_block (h.block _ (World.block_lt_of_cell? w a hc) hf)).trans hc
theorem Mod.heap{F:Nat→Prop}{w w':World}(h:Mod F w w'){k:Nat}{o:Obj}(hc:w.heap[k]?=some o)(hf:¬F k):w'.heap[k]?=some o:=
 (h.block _ (lt_of_block hc) hf).trans hc
theorem cell_of_heap{w:World}{b:Nat}{cs:Array Value}{t:TypeId}{fz:Nat × Nat}(h:w.heap[b]?=some (.cells cs t fz))(i:Nat):w.cell? ⟨b,i,none⟩=cs[i]?:=by
 simp[World.cell?,h]
theorem free_of_heap{w:World}{b:Nat}{cs:Array Value}{t:TypeId}(h:w.heap[b]?=some (.cells cs t (0,0)))(i:Nat):w.frozen? ⟨b,i,none⟩=false:=by
 simp[World.frozen?,h]
theorem heap_setCell_same{w:World}{b:Nat}{cs:Array Value}{t:TypeId}{fz:Nat × Nat}(h:w.heap[b]?=some (.cells cs t fz))(i:Nat)(v:Value) :
  (w.setCell ⟨b,i,none⟩ v).heap[b]?=some (.cells (cs.setIfInBounds i v) t fz):=by
 have hlt:=lt_of_block h
 have h':w.heap[b]=.cells cs t fz:=by simpa[Array.getElem?_eq_getElem hlt]using h
 show (w.heap.modify b _)[b]?=_;rw[Array.getElem?_eq_getElem (by simpa using hlt),Array.getElem_modify_self,h'];rfl
theorem heap_setCell_other{w:World}{b k i:Nat}(h:k≠b)(v:Value):(w.setCell ⟨b,i,none⟩ v).heap[k]?=w.heap[k]?:=
 Below.heap_setCell w _ v k h
end Qh
end
section
namespace Qh
open Go Go.RowKit Qs
structure Ty where
 mach:TypeId
 mem:TypeId
 cell:TypeId
 waits:TypeId
 thr:TypeId
 mark:TypeId
 int:TypeId
 wait:TypeId
 instr:TypeId
structure Lay where
 blk:Nat→Nat→Nat
 nil:Nat→Nat→Bool
 junk:Nat→Nat→List Value
 sp:Nat→Nat→Nat
 code:Nat→Value
def iv(n:Int):Value:=.int .i64 n
def flat{α : Type}(f:Nat→α→List Value):Nat→List α→List Value
 |_,[]=>[]
 |s,x :: l=>f s x++flat f (s+1) l
def Lay.row(L:Lay)(k i n:Nat):Value:=if L.nil k i then .slice none 0 0 else .slice (some ⟨L.blk k i,0,none⟩) n (n+L.sp k i)
def cellVals(L:Lay)(i:Nat)(c:Cell):List Value:=[L.row 6 i c.words.length,iv c.times,.bool c.here]
def waitsVals(L:Lay)(t:Nat)(l:List Wt):List Value:=[L.row 7 t l.length]
def thrVals(L:Lay)(t:Nat)(h:Thr):List Value:=[L.code t,L.row 8 t h.regs.length,iv h.pc]
def wtVals(_:Nat)(x:Wt):List Value:=[iv x.c,iv x.g,iv x.w,iv x.v]
def markVals(_:Nat)(x:Int × Int):List Value:=[iv x.1,iv x.2]
def obj(τ : Ty)(L:Lay)(m:M)(a i:Nat):Option (List Value × TypeId):=
 match a with
 |0=>if i=0 then some ([.pointer (some ⟨L.blk 1 0,0,none⟩),L.row 4 0 m.T.length,L.row 5 0 m.marks.length,iv m.faults],τ.mach)else none
 |1=>if i=0 then some ([L.row 2 0 m.cells.length,L.row 3 0 m.waits.length],τ.mem)else none
 |2=>if i=0∧L.nil 2 0=false then some (flat (cellVals L) 0 m.cells++L.junk 2 0,τ.cell)else none
 |3=>if i=0∧L.nil 3 0=false then some (flat (waitsVals L) 0 m.waits++L.junk 3 0,τ.waits)else none
 |4=>if i=0∧L.nil 4 0=false then some (flat (thrVals L) 0 m.T++L.junk 4 0,τ.thr)else none
 |5=>if i=0∧L.nil 5 0=false then some (flat markVals 0 m.marks++L.junk 5 0,τ.mark)else none
 |6=>if L.nil 6 i=false then (m.cells[i]?).map fun c=>(c.words.map iv++L.junk 6 i,τ.int)else none
 |7=>if L.nil 7 i=false then (m.waits[i]?).map fun l=>(flat wtVals 0 l++L.junk 7 i,τ.wait)else none
 |8=>if L.nil 8 i=false then (m.T[i]?).map fun h=>(h.regs.map iv++L.junk 8 i,τ.int)else none
 |_=>none
structure Rep(τ : Ty)(K:Nat→Bool)(w:World)(L:Lay)(m:M):Prop where
 at_:∀a i cs T,K a=true→obj τ L m a i=some (cs,T)→w.heap[L.blk a i]?=some (.cells cs.toArray T (0,0))
 inj:∀a i b j,K a=true→K b=true→(obj τ L m a i).isSome→(obj τ L m b j).isSome→L.blk a i=L.blk b j→a=b∧i=j
def Foot(τ : Ty)(K:Nat→Bool)(L:Lay)(m:M)(k:Nat):Prop:=∃a i,K a=true∧(obj τ L m a i).isSome∧L.blk a i=k
variable {τ : Ty}{K:Nat→Bool}{w w':World}{L L':Lay}{m m':M}
theorem Rep.frame(R:Rep τ K w L m){F:Nat→Prop}(h:Mod F w w')(hF:∀k,Foot τ K L m k→¬F k):Rep τ K w' L m:=
 ⟨fun a i cs T hK ho=>h.heap (R.at_ a i cs T hK ho) (hF _ ⟨a,i,hK,by rw[ho];rfl,rfl⟩),R.inj⟩
theorem Rep.frame0(R:Rep τ K w L m)(h:Mod noF w w'):Rep τ K w' L m:=R.frame h fun _ _ e=>e.elim
theorem Rep.lt(R:Rep τ K w L m){k:Nat}(h:Foot τ K L m k):k<w.heap.size:=by
 obtain ⟨a,i,hK,hs,rfl⟩:=h;obtain ⟨⟨cs,T⟩,ho⟩:=Option.isSome_iff_exists.1 hs;exact lt_of_block (R.at_ a i cs T hK ho)
theorem Rep.upd(R:Rep τ K w L m){a i j:Nat}{cs:List Value}{T:TypeId}{v:Value}(hK:K a=true)(ho:obj τ L m a i=some (cs,T))(ho':obj τ L m' a i=some (cs.set j v,T))
  (hoth:∀b k,¬(b=a∧k=i)→obj τ L m' b k=obj τ L m b k):Rep τ K (w.setCell ⟨L.blk a i,j,none⟩ v) L m':=by
 have hsome:∀b k,(obj τ L m' b k).isSome→(obj τ L m b k).isSome:=by
  intro b k h
  by_cases e:b=a∧k=i
  ·obtain ⟨rfl,rfl⟩:=e;rw[ho];rfl
  ·rw[←hoth b k e];exact h
 refine ⟨fun b k cs' T' hKb hb=>?_,fun b k b' k' h1 h2 h3 h4 h5=>R.inj b k b' k' h1 h2 (hsome _ _ h3) (hsome _ _ h4) h5⟩
 by_cases e:b=a∧k=i
 ·obtain ⟨rfl,rfl⟩:=e;rw[ho']at hb;cases hb;rw[heap_setCell_same (R.at_ b k cs T hK ho)];simp
 ·rw[hoth b k e]at hb;have hne:L.blk b k≠L.blk a i:=fun h=>e (R.inj b k a i hKb hK (by rw[hb];rfl) (by rw[ho];rfl) h);rw[heap_setCell_other hne];exact R.at_ b k cs' T' hKb hb
theorem Rep.cell(R:Rep τ K w L m){a i:Nat}{cs:List Value}{T:TypeId}(hK:K a=true)(ho:obj τ L m a i=some (cs,T))(j:Nat):w.cell? ⟨L.blk a i,j,none⟩=cs[j]?:=by
 rw[cell_of_heap (R.at_ a i cs T hK ho)];simp
theorem Rep.free(R:Rep τ K w L m){a i:Nat}{cs:List Value}{T:TypeId}(hK:K a=true)(ho:obj τ L m a i=some (cs,T))(j:Nat):w.frozen? ⟨L.blk a i,j,none⟩=false:=
 free_of_heap (R.at_ a i cs T hK ho) j
theorem flat_length{α : Type}(f:Nat→α→List Value)(k:Nat)(hk:∀s x,(f s x).length=k):∀(l:List α) (s:Nat),(flat f s l).length=l.length*k
 |[],_=>by simp[flat]
 |x :: l,s=>by simp[flat,hk,flat_length f k hk l (s+1),Nat.add_mul];omega
theorem flat_get{α : Type}(f:Nat→α→List Value)(k:Nat)(hk:∀s x,(f s x).length=k){j:Nat}(hj:j<k) :
  ∀(l:List α) (s i:Nat) (x : α),l[i]?=some x→∀r,(flat f s l++r)[i*k+j]?=(f (s+i) x)[j]?
 |[],_,_,_,h,_=>by simp at h
 |y :: l,s,0,x,h,r=>by
  simp at h;subst h;simp[flat,List.getElem?_append_left (show j<(f s y++(flat f (s+1) l++r)).length by simp[hk];omega)];rw[List.getElem?_append_left (by rw[hk];exact hj)]
 |y :: l,s,i+1,x,h,r=>by
  have ih:=flat_get f k hk hj l (s+1) i x (by simpa using h) r;simp only[flat,List.append_assoc];rw[List.getElem?_append_right (by rw[hk,Nat.add_mul];omega),hk,show (i+1)*k+j - k=i*k+j from by rw[Nat.add_mul];omega,ih]
  congr 2;omega
theorem flat_set{α : Type}(f:Nat→α→List Value)(k:Nat)(hk:∀s x,(f s x).length=k){j:Nat}(hj:j<k)(v:Value) :
  ∀(l:List α) (s i:Nat) (x y : α),l[i]?=some x→f (s+i) y=(f (s+i) x).set j v→∀r,(flat f s l++r).set (i*k+j) v=flat f s (l.set i y)++r
 |[],_,_,_,_,h,_,_=>by simp at h
 |z :: l,s,0,x,y,h,e,r=>by
  simp at h e;subst h;simp only[flat,List.set_cons_zero,Nat.zero_mul,Nat.zero_add,List.append_assoc,e];rw[List.set_append_left _ _ (by rw[hk];exact hj)]
 |z :: l,s,i+1,x,y,h,e,r=>by
  have ih:=flat_set f k hk hj v l (s+1) i x y (by simpa using h) (by rw[show s+1+i=s+(i+1)from by omega];exact e) r;simp only[flat,List.set_cons_succ,List.append_assoc];rw[List.set_append_right _ _ (by rw[hk,Nat.add_mul];omega),hk,show (i+1)*k+j - k=i*k+j from by rw[Nat.add_mul];omega,ih]
theorem flat_congr{α : Type}{f g:Nat→α→List Value}:∀(l l':List α) (s:Nat),l.length=l'.length→(∀i x y,l[i]?=some x→l'[i]?=some y→f (s+i) x=g (s+i) y)→flat f s l=flat g s l'
 |[],[],_,_,_=>rfl
 |[],_ :: _,_,h,_=>by simp at h
 |_ :: _,[],_,h,_=>by simp at h
 |x :: l,y :: l',s,h,e=>by
  simp only[flat];rw[show f s x=g s y from e 0 x y rfl rfl]
  rw[flat_congr l l' (s+1) (by simpa using h) (fun i a b h1 h2=>by
   have:=e (i+1) a b (by simpa using h1) (by simpa using h2)
   rw[show s+1+i=s+(i+1)from by omega];exact this)]
end Qh
end
section
namespace Qh
open Go Go.RowKit Qs
structure OkM(N:Int)(m:M):Prop where
 cells1:1≤m.cells.length
 cells:m.cells.length≤64
 words:∀(i:Nat) c,m.cells[i]?=some c→c.words.length=4∧∀v∈c.words,isWord v=true
 times:∀(i:Nat) c,m.cells[i]?=some c→0≤c.times∧c.times≤N
 waits:m.waits.length≤6
 wlen:∀(t:Nat) l,m.waits[t]?=some l→l.length≤8
 wval:∀(t:Nat) l,m.waits[t]?=some l→∀x∈l,isWord x.v=true∧0≤x.w∧x.w<4∧0≤x.c∧x.c<m.cells.length∧0≤x.g∧x.g≤N
 N0:0≤N
structure OkL(L:Lay)(m:M):Prop where
 n2:L.nil 2 0=false
 n3:L.nil 3 0=false
 n6:∀i,i<m.cells.length→L.nil 6 i=false
 n7:∀(t:Nat) l,m.waits[t]?=some l→L.nil 7 t=true→l=[]
 sp2:m.cells.length+L.sp 2 0≤1000000000
 sp3:m.waits.length+L.sp 3 0≤1000000000
 sp7:∀(t:Nat) l,m.waits[t]?=some l→L.nil 7 t=false→l.length+L.sp 7 t≤maxLen
 j7:∀t,(L.junk 7 t).length=L.sp 7 t*4
theorem row_some{L:Lay}{k i n:Nat}(h:L.nil k i=false):L.row k i n=.slice (some ⟨L.blk k i,0,none⟩) n (n+L.sp k i):=by simp[Lay.row,h]
variable {τ : Ty}{K:Nat→Bool}{w:World}{L:Lay}{m:M}{N:Int}
theorem obj1(τ : Ty)(L:Lay)(m:M):obj τ L m 1 0=some ([L.row 2 0 m.cells.length,L.row 3 0 m.waits.length],τ.mem):=rfl
theorem obj2(τ : Ty){L:Lay}(m:M)(h:L.nil 2 0=false):obj τ L m 2 0=some (flat (cellVals L) 0 m.cells++L.junk 2 0,τ.cell):=by simp[obj,h]
theorem obj3(τ : Ty){L:Lay}(m:M)(h:L.nil 3 0=false):obj τ L m 3 0=some (flat (waitsVals L) 0 m.waits++L.junk 3 0,τ.waits):=by simp[obj,h]
theorem obj6(τ : Ty){L:Lay}{m:M}{i:Nat}{c:Cell}(h:L.nil 6 i=false)(hc:m.cells[i]?=some c):obj τ L m 6 i=some (c.words.map iv++L.junk 6 i,τ.int):=by simp[obj,h,hc]
theorem obj7(τ : Ty){L:Lay}{m:M}{i:Nat}{l:List Wt}(h:L.nil 7 i=false)(hc:m.waits[i]?=some l):obj τ L m 7 i=some (flat wtVals 0 l++L.junk 7 i,τ.wait):=by simp[obj,h,hc]
theorem OkM.setWaits(om:OkM N m){t:Nat}{l:List Wt}(h8:l.length≤8)(hv:∀x∈l,isWord x.v=true∧0≤x.w∧x.w<4∧0≤x.c∧x.c<m.cells.length∧0≤x.g∧x.g≤N):OkM N {m with waits:=m.waits.set t l}:=by
 refine ⟨om.cells1,om.cells,om.words,om.times,by simpa using om.waits,?_,?_,om.N0⟩
 ·intro u k hk;simp only[List.getElem?_set]at hk
  split at hk
  ·split at hk
   ·cases hk;exact h8
   ·cases hk
  ·exact om.wlen u k hk
 ·intro u k hk;simp only[List.getElem?_set]at hk
  split at hk
  ·split at hk
   ·cases hk;exact hv
   ·cases hk
  ·exact om.wval u k hk
theorem Rep.cells_at(R:Rep τ K w L m)(hK:K 1=true)(ol:OkL L m):w.cell? ⟨L.blk 1 0,0,none⟩=some (.slice (some ⟨L.blk 2 0,0,none⟩) m.cells.length (m.cells.length+L.sp 2 0)):=by
 rw[R.cell hK (obj1 τ L m),←row_some ol.n2];rfl
theorem Rep.waits_at(R:Rep τ K w L m)(hK:K 1=true)(ol:OkL L m):w.cell? ⟨L.blk 1 0,1,none⟩=some (.slice (some ⟨L.blk 3 0,0,none⟩) m.waits.length (m.waits.length+L.sp 3 0)):=by
 rw[R.cell hK (obj1 τ L m),←row_some ol.n3];rfl
theorem Rep.cell_at(R:Rep τ K w L m)(hK:K 2=true)(ol:OkL L m){i:Nat}{c:Cell}(hc:m.cells[i]?=some c) :
  w.cell? ⟨L.blk 2 0,i*3,none⟩=some (.slice (some ⟨L.blk 6 i,0,none⟩) c.words.length (c.words.length+L.sp 6 i))∧w.cell? ⟨L.blk 2 0,i*3+1,none⟩=some (.int .i64 c.times)∧w.cell? ⟨L.blk 2 0,i*3+2,none⟩=some (.bool c.here):=by
 have hi:i<m.cells.length:=(List.getElem?_eq_some_iff.1 hc).1;have hg:=fun j (hj:j<3)=>flat_get (cellVals L) 3 (fun _ _=>rfl) hj m.cells 0 i c hc (L.junk 2 0);refine ⟨?_,?_,?_⟩
 ·rw[R.cell hK (obj2 τ m ol.n2),←row_some (ol.n6 i hi)];have:=hg 0 (by omega);rw[Nat.zero_add]at this;exact this
 ·rw[R.cell hK (obj2 τ m ol.n2),hg 1 (by omega)];rfl
 ·rw[R.cell hK (obj2 τ m ol.n2),hg 2 (by omega)];rfl
theorem Rep.lt1(R:Rep τ K w L m)(hK:K 1=true):L.blk 1 0<w.heap.size:=R.lt ⟨1,0,hK,rfl,rfl⟩
theorem Rep.lt2(R:Rep τ K w L m)(hK:K 2=true)(ol:OkL L m):L.blk 2 0<w.heap.size:=R.lt ⟨2,0,hK,by rw[obj2 τ m ol.n2];rfl,rfl⟩
theorem Rep.lt3(R:Rep τ K w L m)(hK:K 3=true)(ol:OkL L m):L.blk 3 0<w.heap.size:=R.lt ⟨3,0,hK,by rw[obj3 τ m ol.n3];rfl,rfl⟩
end Qh
end
section
namespace Qh
open Go Go.RowKit Qs
theorem flat_congr2{α β : Type}{f:Nat→α→List Value}{g:Nat→β→List Value}:∀(l:List α) (l':List β) (s:Nat),l.length=l'.length→(∀i x y,l[i]?=some x→l'[i]?=some y→f (s+i) x=g (s+i) y)→flat f s l=flat g s l'
 |[],[],_,_,_=>rfl
 |[],_ :: _,_,h,_=>by simp at h
 |_ :: _,[],_,h,_=>by simp at h
 |x :: l,y :: l',s,h,e=>by
  simp only[flat];rw[show f s x=g s y from e 0 x y rfl rfl]
  rw[flat_congr2 l l' (s+1) (by simpa using h) (fun i a b h1 h2=>by
   have:=e (i+1) a b (by simpa using h1) (by simpa using h2)
   rw[show s+1+i=s+(i+1)from by omega];exact this)]
theorem made_flat(z:List Value)(hz:0<z.length)(n:Nat):(madeCells z.toArray (n*z.length)).toList=flat (fun _ (_:Unit)=>z) 0 (List.replicate n ()):=by
 apply List.ext_getElem?;intro i
 have hlen:(flat (fun _ (_:Unit)=>z) 0 (List.replicate n ())).length=n*z.length:=by rw[flat_length _ z.length (fun _ _=>rfl)];simp
 by_cases h:i<n*z.length
 ·have hj:i % z.length<z.length:=Nat.mod_lt _ hz;have hq:i/z.length<n:=(Nat.div_lt_iff_lt_mul hz).2 h;have hg:=flat_get (fun _ (_:Unit)=>z) z.length (fun _ _=>rfl) hj (List.replicate n ()) 0 (i/z.length) () (by simp[hq]) [];rw[List.append_nil,Nat.mul_comm,Nat.div_add_mod]at hg;rw[hg]
  have:(madeCells z.toArray (n*z.length)).toList[i]?=some (z.toArray[i % z.toArray.size]!):=by
   rw[Array.getElem?_toList];simp[madeCells,h]
  rw[this,List.getElem?_eq_getElem hj];simp[hj]
 ·rw[List.getElem?_eq_none (by simp[madeCells];omega),List.getElem?_eq_none (by rw[hlen];omega)]
def newV(_:Nat)(e:Option Nat):List Value:=[match e with|some b=>.slice (some ⟨b,0,none⟩) 4 4|none=>.slice none 0 0,iv 0,.bool false]
def newE(B n k:Nat):List (Option Nat):=(List.range n).map fun i=>if i<k then some (B+i)else none
theorem newE_len(B n k:Nat):(newE B n k).length=n:=by simp[newE]
theorem newE_get{B n k i:Nat}(h:i<n):(newE B n k)[i]?=some (if i<k then some (B+i)else none):=by simp[newE,h]
theorem newE_succ{B n k:Nat}(h:k<n):newE B n (k+1)=(newE B n k).set k (some (B+k)):=by
 apply List.ext_getElem?;intro i;rw[List.getElem?_set]
 by_cases hi:i<n
 ·rw[newE_get hi]
  by_cases e:k=i
  ·subst e;simp[newE_len,h]
  ·rw[if_neg e,newE_get hi]
   by_cases h1:i<k
   ·rw[if_pos (by omega),if_pos h1]
   ·rw[if_neg (by omega),if_neg h1]
 ·rw[List.getElem?_eq_none (by rw[newE_len];omega)]
  have:k≠i:=by omega
  rw[if_neg this,List.getElem?_eq_none (by rw[newE_len];omega)]
def newArr(B n k:Nat):List Value:=flat newV 0 (newE B n k)
theorem newArr_zero(B n:Nat):(madeCells #[.slice none 0 0,.int .i64 0,.bool false] (n*3)).toList=newArr B n 0:=by
 have:=made_flat [.slice none 0 0,.int .i64 0,.bool false] (by simp) n;refine Eq.trans this ?_;refine flat_congr2 _ _ 0 (by simp[newE_len]) fun i x y h1 h2=>?_
 have hi:i<n:=by have:=(List.getElem?_eq_some_iff.1 h1).1;simpa using this
 rw[newE_get hi]at h2;simp at h2;subst h2;rfl
theorem newArr_succ{B n k:Nat}(h:k<n):newArr B n (k+1)=(newArr B n k).set (k*3) (.slice (some ⟨B+k,0,none⟩) 4 4):=by
 unfold newArr;rw[newE_succ h];have:=flat_set newV 3 (fun _ _=>rfl) (j:=0) (by omega) (.slice (some ⟨B+k,0,none⟩) 4 4) (newE B n k) 0 k none (some (B+k)) (by rw[newE_get h];simp) (by rfl) [];rw[List.append_nil,List.append_nil]at this;exact this.symm
def newM(n t:Nat):M:=⟨List.replicate n ⟨[0,0,0,0],0,false⟩,List.replicate t [],[],[],0⟩
def memK(k:Nat):Bool:=k==1||k==2||k==3||k==6||k==7
def newL(bm bc bw B:Nat):Lay where
 blk a i:=match a with|1=>bm|2=>bc|3=>bw|_=>B+i
 nil a _:=a==7||a==5
 junk _ _:=[]
 sp _ _:=0
 code _:=.slice none 0 0
theorem newL_ok{n t bm bc bw B:Nat}(hn:n≤64)(ht:t≤6):OkL (newL bm bc bw B) (newM n t):=by
 refine ⟨rfl,rfl,fun _ _=>rfl,?_,by simp[newM,newL];omega,by simp[newM,newL];omega,?_,fun _=>rfl⟩
 ·intro u l hl _;exact List.eq_of_mem_replicate (List.mem_of_getElem? hl)
 ·intro u l hl h;simp[newL]at h
theorem newM_rep{τ : Ty}{w:World}{n t bm bc bw B:Nat}(hm:w.heap[bm]?=some (.cells #[.slice (some ⟨bc,0,none⟩) n n,.slice (some ⟨bw,0,none⟩) t t] τ.mem (0,0)))
  (hc:w.heap[bc]?=some (.cells (newArr B n n).toArray τ.cell (0,0))) (hw:w.heap[bw]?=some (.cells (List.replicate t (.slice none 0 0)).toArray τ.waits (0,0)))
  (hws:∀i,i<n→w.heap[B+i]?=some (.cells #[.int .i64 0,.int .i64 0,.int .i64 0,.int .i64 0] τ.int (0,0)))
  (h1:bm<B) (h2:bc<B) (h3:bw<B) (h12:bm≠bc) (h13:bm≠bw) (h23:bc≠bw):Rep τ memK w (newL bm bc bw B) (newM n t):=by
 have hin:∀a i,memK a=true→(obj τ (newL bm bc bw B) (newM n t) a i).isSome→(a=1∧i=0)∨(a=2∧i=0)∨(a=3∧i=0)∨(a=6∧i<n):=by
  intro a i hK h;simp only[memK,Bool.or_eq_true,beq_iff_eq]at hK
  rcases hK with (((rfl|rfl)|rfl)|rfl)|rfl
  ·left;simp only[obj]at h
   split at h
   ·rename_i e;exact ⟨rfl,e⟩
   ·cases h
  ·right;left;simp only[obj]at h
   split at h
   ·rename_i e;exact ⟨rfl,e.1⟩
   ·cases h
  ·right;right;left;simp only[obj]at h
   split at h
   ·rename_i e;exact ⟨rfl,e.1⟩
   ·cases h
  ·right;right;right;refine ⟨rfl,?_⟩;simp only[obj]at h
   rcases Nat.lt_or_ge i n with h'|h'
   ·exact h'
   ·rw[show (newM n t).cells[i]?=none from List.getElem?_eq_none (by simpa[newM]using h')]at h;simp at h
  ·simp[obj,newL]at h
 refine ⟨fun a i cs T hK ho=>?_,fun a i b j ha hb h1' h2' he=>?_⟩
 ·rcases hin a i hK (by rw[ho];rfl)with ⟨rfl,rfl⟩|⟨rfl,rfl⟩|⟨rfl,rfl⟩|⟨rfl,hi⟩
  ·rw[obj1]at ho;cases ho;refine Eq.trans hm ?_;simp[newM,Lay.row,newL]
  ·rw[obj2 τ _ rfl]at ho;cases ho;refine Eq.trans hc ?_
   congr 3
   simp only[newL,List.append_nil];refine flat_congr2 _ _ 0 (by simp[newE_len,newM]) fun i x y h1 h2=>?_
   have hi:i<n:=by have:=(List.getElem?_eq_some_iff.1 h1).1;rwa [newE_len]at this
   rw[newE_get hi,if_pos hi]at h1;cases h1;have:y=⟨[0,0,0,0],0,false⟩:=List.eq_of_mem_replicate (List.mem_of_getElem? h2);subst this;simp[newV,cellVals,Lay.row]
  ·rw[obj3 τ _ rfl]at ho;cases ho;refine Eq.trans hw ?_
   congr 3
   simp only[newL,List.append_nil]
   have:List.replicate t (Value.slice none 0 0)=flat (fun _ (_:Unit)=>[Value.slice none 0 0]) 0 (List.replicate t ()):=by
    have hh:∀(t s:Nat),List.replicate t (Value.slice none 0 0)=flat (fun _ (_:Unit)=>[Value.slice none 0 0]) s (List.replicate t ()):=by
     intro t
     induction t with
     |zero=>intro s;rfl
     |succ t ih=>intro s;simp only[List.replicate_succ,flat,←ih (s+1)];rfl
    exact hh t 0
   rw[this];refine flat_congr2 _ _ 0 (by simp[newM]) fun i x y h1 h2=>?_;have:y=[]:=List.eq_of_mem_replicate (List.mem_of_getElem? h2);subst this;simp[waitsVals,Lay.row]
  ·have hg:(newM n t).cells[i]?=some ⟨[0,0,0,0],0,false⟩:=by simp[newM,hi]
   rw[obj6 τ rfl hg]at ho;cases ho;exact hws i hi
 ·rcases hin a i ha h1' with ⟨rfl,rfl⟩|⟨rfl,rfl⟩|⟨rfl,rfl⟩|⟨rfl,hi⟩ <;> rcases hin b j hb h2' with ⟨rfl,rfl⟩|⟨rfl,rfl⟩|⟨rfl,rfl⟩|⟨rfl,hj⟩ <;> simp only[newL]at he <;> first|(refine ⟨rfl,?_⟩;omega)|omega
end Qh
end
section
namespace Qh
open Go Go.RowKit Qs
def acell(_:Nat)(c:Cell):List Value:=[iv (c.words.getD 0 0),iv (c.words.getD 1 0),iv (c.words.getD 2 0),iv (c.words.getD 3 0),iv c.times,.bool c.here]
theorem acell_len(s:Nat)(c:Cell):(acell s c).length=6:=rfl
structure ArenaAt(TA TC:TypeId)(w:World)(b g:Nat)(l:List Cell):Prop where
 top:w.heap[b]?=some (.cells #[.slice (some ⟨g,0,none⟩) l.length l.length] TA (0,0))
 cells:w.heap[g]?=some (.cells (flat acell 0 l).toArray TC (0,0))
 ne:b≠g
variable {TA TC:TypeId}{w w':World}{b g:Nat}{l:List Cell}
theorem ArenaAt.keep{F:Nat→Prop}(h:ArenaAt TA TC w b g l)(hM:Mod F w w')(hb:¬F b)(hg:¬F g):ArenaAt TA TC w' b g l:=
 ⟨hM.heap h.top hb,hM.heap h.cells hg,h.ne⟩
theorem ArenaAt.keep0(h:ArenaAt TA TC w b g l)(hM:Mod noF w w'):ArenaAt TA TC w' b g l:=h.keep hM (fun e=>e) (fun e=>e)
theorem ArenaAt.lt(h:ArenaAt TA TC w b g l):b<w.heap.size∧g<w.heap.size:=⟨lt_of_block h.top,lt_of_block h.cells⟩
theorem ArenaAt.slice(h:ArenaAt TA TC w b g l):w.cell? ⟨b,0,none⟩=some (.slice (some ⟨g,0,none⟩) l.length l.length):=(cell_of_heap h.top 0).trans rfl
theorem ArenaAt.cell(h:ArenaAt TA TC w b g l){i:Nat}{c:Cell}(hi:l[i]?=some c){j:Nat}(hj:j<6):w.cell? ⟨g,i*6+j,none⟩=(acell 0 c)[j]?:=by
 rw[cell_of_heap h.cells];have:=flat_get acell 6 acell_len hj l 0 i c hi [];rw[List.append_nil]at this;refine Eq.trans ?_ this;simp
theorem ArenaAt.free(h:ArenaAt TA TC w b g l)(j:Nat):w.frozen? ⟨g,j,none⟩=false:=free_of_heap h.cells j
theorem ArenaAt.set(h:ArenaAt TA TC w b g l){i:Nat}{c c':Cell}(hi:l[i]?=some c){j:Nat}(hj:j<6)(v:Value)(e:acell 0 c'=(acell 0 c).set j v):ArenaAt TA TC (w.setCell ⟨g,i*6+j,none⟩ v) b g (l.set i c'):=by
 refine ⟨?_,?_,h.ne⟩
 ·rw[Qh.heap_setCell_other h.ne,List.length_set];exact h.top
 ·rw[Qh.heap_setCell_same h.cells];have:=flat_set acell 6 acell_len hj v l 0 i c c' hi (by simpa[acell]using e) [];rw[List.append_nil,List.append_nil]at this;rw[←this];simp
def givenCell(c:Cell):Cell:=⟨[0,0,0,0],c.times+1,true⟩
theorem ArenaAt.given(h:ArenaAt TA TC w b g l){i:Nat}{c:Cell}(hi:l[i]?=some c) :
  ArenaAt TA TC ((((((w.setCell ⟨g,i*6,none⟩ (.int .i64 0)).setCell ⟨g,i*6+1,none⟩ (.int .i64 0)).setCell ⟨g,i*6+2,none⟩ (.int .i64 0)).setCell ⟨g,i*6+3,none⟩ (.int .i64 0)).setCell ⟨g,i*6+4,none⟩ (.int .i64 (c.times+1))).setCell ⟨g,i*6+5,none⟩ (.bool true)) b g (l.set i (givenCell c)):=by
 have hlt:i<l.length:=(List.getElem?_eq_some_iff.1 hi).1
 have g0:∀x:Cell,(l.set i x)[i]?=some x:=fun x=>by rw[List.getElem?_set];simp[hlt]
 have s0:=h.set hi (j:=0) (by omega) (.int .i64 0) (c':=⟨[0,c.words.getD 1 0,c.words.getD 2 0,c.words.getD 3 0],c.times,c.here⟩) rfl;have s1:=s0.set (g0 _) (j:=1) (by omega) (.int .i64 0) (c':=⟨[0,0,c.words.getD 2 0,c.words.getD 3 0],c.times,c.here⟩) rfl;rw[List.set_set]at s1
 have s2:=s1.set (g0 _) (j:=2) (by omega) (.int .i64 0) (c':=⟨[0,0,0,c.words.getD 3 0],c.times,c.here⟩) rfl;rw[List.set_set]at s2;have s3:=s2.set (g0 _) (j:=3) (by omega) (.int .i64 0) (c':=⟨[0,0,0,0],c.times,c.here⟩) rfl;rw[List.set_set]at s3
 have s4:=s3.set (g0 _) (j:=4) (by omega) (.int .i64 (c.times+1)) (c':=⟨[0,0,0,0],c.times+1,c.here⟩) rfl;rw[List.set_set]at s4;have s5:=s4.set (g0 _) (j:=5) (by omega) (.bool true) (c':=givenCell c) rfl;rw[List.set_set]at s5;exact s5
def freshCell:Cell:=⟨[0,0,0,0],0,false⟩
theorem fresh_flat(n:Nat):(madeCells #[.int .i64 0,.int .i64 0,.int .i64 0,.int .i64 0,.int .i64 0,.bool false] (n*6)).toList=flat acell 0 (List.replicate n freshCell):=by
 have:=made_flat [.int .i64 0,.int .i64 0,.int .i64 0,.int .i64 0,.int .i64 0,.bool false] (by simp) n;refine Eq.trans this ?_;refine flat_congr2 _ _ 0 (by simp) fun i x y h1 h2=>?_;have:=List.eq_of_mem_replicate (List.mem_of_getElem? h2);subst this;rfl
end Qh
end
section
namespace Qh
open Go Go.RowKit Qs
variable {τ : Ty}{K:Nat→Bool}{w w':World}{L L':Lay}{m m':M}{N:Int}
theorem Rep.move(R:Rep τ K w L m)(a0 i0:Nat)(hblk:∀a i,¬(a=a0∧i=i0)→L'.blk a i=L.blk a i)(hfresh:w.heap.size≤L'.blk a0 i0)
  (hsome:∀a i,¬(a=a0∧i=i0)→(obj τ L' m' a i).isSome→(obj τ L m a i).isSome)
  (hat:∀a i cs T,K a=true→obj τ L' m' a i=some (cs,T)→w'.heap[L'.blk a i]?=some (.cells cs.toArray T (0,0))):Rep τ K w' L' m':=by
 refine ⟨hat,fun a i b j ha hb hs hs' he=>?_⟩
 by_cases e1:a=a0∧i=i0
 ·by_cases e2:b=a0∧j=i0
  ·exact ⟨e1.1.trans e2.1.symm,e1.2.trans e2.2.symm⟩
  ·exfalso;have h1:=R.lt ⟨b,j,hb,hsome b j e2 hs',rfl⟩;rw[←hblk b j e2,←he,e1.1,e1.2]at h1;omega
 ·by_cases e2:b=a0∧j=i0
  ·exfalso;have h1:=R.lt ⟨a,i,ha,hsome a i e1 hs,rfl⟩;rw[←hblk a i e1,he,e2.1,e2.2]at h1;omega
  ·refine R.inj a i b j ha hb (hsome a i e1 hs) (hsome b j e2 hs') ?_;rw[←hblk a i e1,←hblk b j e2];exact he
theorem Rep.keep(R:Rep τ K w L m){F:Nat→Prop}(hM:Mod F w w'){a i:Nat}{cs:List Value}{T:TypeId}(hK:K a=true)(ho:obj τ L' m' a i=some (cs,T))(h1:obj τ L' m' a i=obj τ L m a i)
  (h2:L'.blk a i=L.blk a i) (hF:¬F (L.blk a i)):w'.heap[L'.blk a i]?=some (.cells cs.toArray T (0,0)):=by
 rw[h2];rw[h1]at ho;exact hM.heap (R.at_ a i cs T hK ho) hF
theorem Rep.ne(R:Rep τ K w L m){a i b j:Nat}(ha:K a=true)(hb:K b=true)(h1:(obj τ L m a i).isSome)(h2:(obj τ L m b j).isSome)(h:¬(a=b∧i=j)):¬(L.blk a i=L.blk b j):=
 fun e=>h (R.inj a i b j ha hb h1 h2 e)
theorem allocAt_found:∀(l:List Cell) (s k:Nat) (c:Cell),l[k]?=some c→c.here=false→(∀j x,j<k→l[j]?=some x→x.here=true)→allocAt l s=some (s+k,c.times)
 |[],_,_,_,h,_,_=>by simp at h
 |x :: l,s,0,c,h,hc,_=>by
  simp at h;subst h;simp[allocAt,hc]
 |x :: l,s,k+1,c,h,hc,hj=>by
  have hx:=hj 0 x (by omega) rfl;simp only[allocAt,hx,if_true];rw[allocAt_found l (s+1) k c (by simpa using h) hc (fun j y hjk hy=>hj (j+1) y (by omega) (by simpa using hy))]
  congr 2;omega
theorem allocAt_none:∀(l:List Cell) (s:Nat),(∀(j:Nat) x,l[j]?=some x→x.here=true)→allocAt l s=none
 |[],_,_=>rfl
 |x :: l,s,h=>by
  have hx:=h 0 x rfl;simp only[allocAt,hx,if_true];exact allocAt_none l (s+1) fun j y hy=>h (j+1) y (by simpa using hy)
def Lay.words(L:Lay)(i b:Nat):Lay:=
 {L with blk:=fun a j=>if a=6∧j=i then b else L.blk a j,sp:=fun a j=>if a=6∧j=i then 0 else L.sp a j,junk:=fun a j=>if a=6∧j=i then []else L.junk a j,nil:=fun a j=>if a=6∧j=i then false else L.nil a j}
theorem toArray_set3(l:List Value)(a b c:Nat)(x y z:Value):((l.toArray.setIfInBounds a x).setIfInBounds b y).setIfInBounds c z=(((l.set a x).set b y).set c z).toArray:=by simp
def zeroCell(n:Int):Cell:=⟨[0,0,0,0],n,true⟩
theorem flat_put3{α : Type}(f f':Nat→α→List Value)(hk:∀s x,(f s x).length=3)(v0 v1 v2:Value) :
  ∀(l:List α) (s i:Nat) (y : α),i<l.length→f' (s+i) y=[v0,v1,v2]→(∀j x,j≠i→f' (s+j) x=f (s+j) x)→∀r,
   (((flat f s l++r).set (i*3) v0).set (i*3+1) v1).set (i*3+2) v2=flat f' s (l.set i y)++r
 |[],_,_,_,h,_,_,_=>by simp at h
 |x :: l,s,0,y,_,hy,hj,r=>by
  have hx:=hk s x
  match e:f s x,hx with
  |[a,b,c],_=>
   have hc:flat f (s+1) l=flat f' (s+1) l:=by
    refine flat_congr l l (s+1) rfl fun j a b h1 h2=>?_;rw[h1]at h2;cases h2;have:=hj (j+1) a (by omega);rw[show s+1+j=s+(j+1)from by omega];exact this.symm
   have hy':f' s y=[v0,v1,v2]:=hy;simp[flat,e,hy',hc]
 |x :: l,s,i+1,y,hi,hy,hj,r=>by
  have ih:=flat_put3 f f' hk v0 v1 v2 l (s+1) i y (by simpa using hi) (by rw[show s+1+i=s+(i+1)from by omega];exact hy)
   (fun j z hne=>by have:=hj (j+1) z (by omega);rw[show s+1+j=s+(j+1)from by omega];exact this) r
  have h0:f' s x=f s x:=hj 0 x (by omega);have hl:=hk s x;simp only[flat,List.set_cons_succ,List.append_assoc,h0]
  rw[List.set_append_right _ _ (by rw[hl];omega),hl,List.set_append_right _ _ (by rw[hl];omega),hl,List.set_append_right _ _ (by rw[hl];omega),hl,
   show (i+1)*3 - 3=i*3 from by omega,show (i+1)*3+1 - 3=i*3+1 from by omega,show (i+1)*3+2 - 3=i*3+2 from by omega,ih]
theorem words_row(L:Lay)(i b a j n:Nat)(h:¬(a=6∧j=i)):(L.words i b).row a j n=L.row a j n:=by
 have h':¬(a=6∧j=i):=h;simp only[Lay.row,Lay.words,if_neg h']
theorem words_blk(L:Lay)(i b a j:Nat)(h:¬(a=6∧j=i)):(L.words i b).blk a j=L.blk a j:=by simp only[Lay.words,if_neg h]
theorem words_nil(L:Lay)(i b a j:Nat)(h:¬(a=6∧j=i)):(L.words i b).nil a j=L.nil a j:=by simp only[Lay.words,if_neg h]
theorem words_junk(L:Lay)(i b a j:Nat)(h:¬(a=6∧j=i)):(L.words i b).junk a j=L.junk a j:=by simp only[Lay.words,if_neg h]
theorem words_obj(τ : Ty)(L:Lay)(m:M)(i b:Nat)(t:Int)(a j:Nat)(h6:¬(a=6∧j=i))(h2:¬(a=2∧j=0)) :
  obj τ (L.words i b) {m with cells:=m.cells.set i (zeroCell t)} a j=obj τ L m a j:=by
 have ew:waitsVals (L.words i b)=waitsVals L:=by funext t l;simp[waitsVals,words_row]
 have et:thrVals (L.words i b)=thrVals L:=by funext t l;simp[thrVals,words_row];rfl
 match a with
 |0=>simp[obj,words_row,words_blk]
 |1=>simp[obj,words_row]
 |2=>have:j≠0:=fun e=>h2 ⟨rfl,e⟩;simp[obj,this]
 |3=>simp[obj,ew,words_nil,words_junk]
 |4=>simp[obj,et,words_nil,words_junk]
 |5=>simp[obj,words_nil,words_junk]
 |6=>
  have hj:j≠i:=fun e=>h6 ⟨rfl,e⟩;have hj':i≠j:=fun e=>hj e.symm;simp[obj,words_nil,words_junk,hj,hj',List.getElem?_set]
 |7=>simp[obj,words_nil,words_junk]
 |8=>simp[obj,words_nil,words_junk]
 |n+9=>rfl
theorem Rep.given(R:Rep τ K w L m)(h2:K 2=true)(h6:K 6=true)(ol:OkL L m){i b:Nat}{c:Cell}(hc:m.cells[i]?=some c)(hb:w.heap.size≤b)(t:Int)
  (hM:Mod (fun x=>x=L.blk 2 0) w w')
  (hblk:w'.heap[L.blk 2 0]?=some (.cells ((((flat (cellVals L) 0 m.cells++L.junk 2 0).set (i*3) (.slice (some ⟨b,0,none⟩) 4 4)).set (i*3+1) (iv t)).set (i*3+2) (.bool true)).toArray τ.cell (0,0)))
  (hnew:w'.heap[b]?=some (.cells #[iv 0,iv 0,iv 0,iv 0] τ.int (0,0))) :
  Rep τ K w' (L.words i b) {m with cells:=m.cells.set i (zeroCell t)}:=by
 have hi:i<m.cells.length:=(List.getElem?_eq_some_iff.1 hc).1
 have hflat:flat (cellVals (L.words i b)) 0 (m.cells.set i (zeroCell t))++L.junk 2 0=((((flat (cellVals L) 0 m.cells++L.junk 2 0).set (i*3) (.slice (some ⟨b,0,none⟩) 4 4)).set (i*3+1) (iv t)).set (i*3+2) (.bool true)):=by
  refine (flat_put3 (cellVals L) (cellVals (L.words i b)) (fun _ _=>rfl) _ _ _ m.cells 0 i (zeroCell t) hi ?_ ?_ _).symm
  ·simp[cellVals,zeroCell,Lay.row,Lay.words]
  ·intro j x hj;simp[cellVals,words_row,hj]
 have hsome:∀a j,¬(a=6∧j=i)→(obj τ (L.words i b) {m with cells:=m.cells.set i (zeroCell t)} a j).isSome→(obj τ L m a j).isSome:=by
  intro a j h hs
  by_cases e:a=2∧j=0
  ·obtain ⟨rfl,rfl⟩:=e;rw[obj2 τ m ol.n2];rfl
  ·rw[words_obj τ L m i b t a j h e]at hs;exact hs
 have hbk:∀a j,¬(a=6∧j=i)→(L.words i b).blk a j=L.blk a j:=fun a j h=>by simp only[Lay.words,if_neg h]
 refine R.move 6 i hbk (by simp[Lay.words,hb]) hsome fun a j cs T hK ho=>?_
 by_cases e6:a=6∧j=i
 ·obtain ⟨rfl,rfl⟩:=e6;simp[obj,Lay.words,hi,zeroCell]at ho;obtain ⟨rfl,rfl⟩:=ho;rw[show (L.words j b).blk 6 j=b from by simp[Lay.words]];exact hnew
 ·by_cases e2:a=2∧j=0
  ·obtain ⟨rfl,rfl⟩:=e2;rw[obj2 τ _ (show (L.words i b).nil 2 0=false from by simp[Lay.words,ol.n2])]at ho
   have hjk:(L.words i b).junk 2 0=L.junk 2 0:=by simp[Lay.words]
   rw[hjk,hflat]at ho;cases ho;rw[hbk 2 0 (by omega)];exact hblk
  ·have e:=words_obj τ L m i b t a j e6 e2;refine R.keep hM hK ho e (hbk a j e6) ?_;exact R.ne hK h2 (by rw[←e,ho];rfl) (by rw[obj2 τ m ol.n2];rfl) e2
theorem Rep.given_w(R:Rep τ K w L m)(h2:K 2=true)(h6:K 6=true)(ol:OkL L m){i:Nat}{c:Cell}(hc:m.cells[i]?=some c)(t:Int)(o1:Obj) :
  Rep τ K (((((w.setCell ⟨L.blk 2 0,i*3,none⟩ (.slice (some ⟨w.heap.size+1,0,none⟩) 4 4)).setCell ⟨L.blk 2 0,i*3+1,none⟩ (.int .i64 t)).setCell ⟨L.blk 2 0,i*3+2,none⟩ (.bool true)).alloc o1).alloc (.cells #[.int .i64 0,.int .i64 0,.int .i64 0,.int .i64 0] τ.int)).drew
   (L.words i (w.heap.size+1)) {m with cells:=m.cells.set i (zeroCell t)}∧
  Mod (fun x=>x=L.blk 2 0) w (((((w.setCell ⟨L.blk 2 0,i*3,none⟩ (.slice (some ⟨w.heap.size+1,0,none⟩) 4 4)).setCell ⟨L.blk 2 0,i*3+1,none⟩ (.int .i64 t)).setCell ⟨L.blk 2 0,i*3+2,none⟩ (.bool true)).alloc o1).alloc (.cells #[.int .i64 0,.int .i64 0,.int .i64 0,.int .i64 0] τ.int)).drew:=by
 have hM:Mod (fun x=>x=L.blk 2 0) w (((((w.setCell ⟨L.blk 2 0,i*3,none⟩ (.slice (some ⟨w.heap.size+1,0,none⟩) 4 4)).setCell ⟨L.blk 2 0,i*3+1,none⟩ (.int .i64 t)).setCell ⟨L.blk 2 0,i*3+2,none⟩ (.bool true)).alloc o1).alloc (.cells #[.int .i64 0,.int .i64 0,.int .i64 0,.int .i64 0] τ.int)).drew:=
  ((((((Mod.refl (fun x=>x=L.blk 2 0) w).setCell (fun _=>rfl) _).setCell (fun _=>rfl) _).setCell (fun _=>rfl) _).alloc _).alloc _).drew
 refine ⟨R.given h2 h6 ol hc (by omega) t hM ?_ ?_,hM⟩
 ·have hb:=R.lt2 h2 ol;have e0:=R.at_ 2 0 _ _ h2 (obj2 τ m ol.n2);have e3:=heap_setCell_same (heap_setCell_same (heap_setCell_same e0 (i*3) (.slice (some ⟨w.heap.size+1,0,none⟩) 4 4)) (i*3+1) (.int .i64 t)) (i*3+2) (.bool true);rw[toArray_set3]at e3;show (World.alloc (World.alloc _ _) _).heap[_]?=_
  rw[Below.heap_alloc _ _ _ (by simp;omega),Below.heap_alloc _ _ _ (by simp;omega)];exact e3
 ·show (World.alloc (World.alloc _ _) _).heap[_]?=_
  have:=heap_alloc_new (World.alloc (((w.setCell ⟨L.blk 2 0,i*3,none⟩ (.slice (some ⟨w.heap.size+1,0,none⟩) 4 4)).setCell ⟨L.blk 2 0,i*3+1,none⟩ (.int .i64 t)).setCell ⟨L.blk 2 0,i*3+2,none⟩ (.bool true)) o1) (.cells #[.int .i64 0,.int .i64 0,.int .i64 0,.int .i64 0] τ.int)
  simp only[World.size_alloc,World.size_setCell]at this;exact this
end Qh
end
section
namespace Qh
open Go Go.RowKit
variable {P:Program}(w:World)
theorem new_cells(l:List Value)(T:TypeId):∀j u,l[j]?=some u→(w.alloc (.cells l.toArray T)).cell? ((⟨w.heap.size,0,none⟩:Addr).add j)=some u:=by
 intro j u h
 have hadd:(⟨w.heap.size,0,none⟩:Addr).add j=⟨w.heap.size,j,none⟩:=by unfold Addr.add;split <;> simp_all
 rw[hadd,World.cell?_alloc_new]
 simpa using h
theorem ints_one(l:List Int):∀u∈l.map (Value.int .i64),u.oneCell'=true:=by
 intro u hu;obtain ⟨n,_,rfl⟩:=List.mem_map.1 hu;rfl
theorem run_append_mine(t ty e:TypeId)(i:TypeInfo)(z:Value)(size bytes:Nat)(ht:P.underlying t=some (.slice e))(hi:P.info? e=some i)(hz:i.zero=some z)
  (hsize:i.size=size) (hby:i.bytes=bytes) (hzs:z.cells.size=size) (hsz:0<size)
  (v:Value) (n:Nat) (xs:List Value) (hown:w.ownsRow 0 e size v n xs)
  (a:Addr) (m c:Nat) (news:List Value) (hl:news.length=m*size) (hnews:∀j u,news[j]?=some u→w.cell? (a.add j)=some u) (h1:∀u∈news,u.oneCell'=true)
  (h63:n+m≤maxLen) (hbytes:(n+m)*bytes≤140737488355328) :
  ∃v' w',(Builtin.append_ #[t,t] ty #[v,.slice (some a) m c]).run P w=.ok v' w'∧w'.ownsRow 0 e size v' (n+m) (xs++news)∧w.grownBy w' v.ownBlock∧
   (∀g,v'.ownBlock=some g→v.ownBlock=some g∨w.heap.size≤g)∧(v'=.slice none 0 0↔v=.slice none 0 0∧m=0):=by
 rcases hown.2 with ⟨rfl,rfl⟩|⟨g,cap,cur,rfl,hbg,hg,hnc,hcm,hcs,htake⟩
 ·have hown':w.ownsRow w.heap.size e size (.slice none 0 0) 0 xs:=⟨hown.1,.inl ⟨rfl,rfl⟩⟩;obtain ⟨v',w',h2,h3,h4,h5⟩:=run_append_own w w.heap.size t ty e i z size bytes ht hi hz hsize hby hzs hsz _ 0 xs hown' a m c news hl hnews h1 h63 hbytes (Nat.le_refl _)
  refine ⟨v',w',h2,⟨h3.1,?_⟩,h4,fun g hg=>.inr (h3.lt g hg).1,h5⟩
  rcases h3.2 with h|⟨g,cap,cur,e1,_,r⟩
  ·exact .inl h
  ·exact .inr ⟨g,cap,cur,e1,Nat.zero_le _,r⟩
 ·by_cases hroom:n+m≤cap
  ·subst hsize
   have hfit:n*i.size+news.length≤cur.size:=by rw[hl,hcs,←Nat.add_mul];exact Nat.mul_le_mul_right _ hroom
   have hr:=run_append_room (P:=P) w t ty e i ht hi g n cap cur hg a m c news hl hnews h1 hroom hfit;obtain ⟨v',w',h2,h3,h4,h5⟩:=run_append_own w 0 t ty e i z i.size bytes ht hi hz rfl hby hzs hsz _ n xs hown a m c news hl hnews h1 h63 hbytes (Nat.zero_le _);rw[h2]at hr;cases hr
   exact ⟨_,_,h2,h3,h4,fun k hk=>.inl (by simpa[Value.ownBlock]using hk),h5⟩
  ·obtain ⟨v',w',h2,h3,h4,h5⟩:=run_append_own w 0 t ty e i z size bytes ht hi hz hsize hby hzs hsz _ n xs hown a m c news hl hnews h1 h63 hbytes (Nat.zero_le _);have holds:∀j u,xs[j]?=some u→w.cell? ((⟨g,0,none⟩:Addr).add j)=some u:=hown.cells (g:=g) rfl;subst hsize;subst hby
   have hr:=run_append_grow (P:=P) w t ty e i z ht hi hz ⟨g,0,none⟩ n cap xs hown.1 holds a m c news hl hnews (by omega) (by unfold maxLen at h63;omega) (growslice_fits (by omega) hbytes);rw[h2]at hr;cases hr;exact ⟨_,_,h2,h3,h4,fun k hk=>.inr (by simp[Value.ownBlock]at hk;omega),h5⟩
theorem wp_append_mine{o:Oper}{a:Act}{K:Act→World→Prop}{Q:Exit→Act→World→Prop}(s x:Operand)(t:TypeId)
  (ho:o.op=.call {callee:=.builtin .append,args:=#[s,x],argTypes:=#[t,t]})
  (e:TypeId) (i:TypeInfo) (z:Value) (size bytes:Nat) (ht:P.underlying t=some (.slice e)) (hi:P.info? e=some i) (hz:i.zero=some z)
  (hsize:i.size=size) (hby:i.bytes=bytes) (hzs:z.cells.size=size) (hsz:0<size)
  (v:Value) (n:Nat) (xs:List Value) (hs:a.eval s=v) (hown:w.ownsRow 0 e size v n xs)
  (ad:Addr) (m c:Nat) (news:List Value) (hx:a.eval x=.slice (some ad) m c) (hl:news.length=m*size) (hnews:∀j u,news[j]?=some u→w.cell? (ad.add j)=some u) (h1:∀u∈news,u.oneCell'=true)
  (h63:n+m≤maxLen) (hbytes:(n+m)*bytes≤140737488355328)
  (h:∀v' w',w'.ownsRow 0 e size v' (n+m) (xs++news)→w.grownBy w' v.ownBlock→(∀g,v'.ownBlock=some g→v.ownBlock=some g∨w.heap.size≤g)→(v'=.slice none 0 0↔v=.slice none 0 0∧m=0)→K (a.put o.dst v') w'):o.wp P a w K Q:=by
 obtain ⟨v',w',hr,h2,h3,h4,h5⟩:=run_append_mine (P:=P) w t o.type e i z size bytes ht hi hz hsize hby hzs hsz v n xs hown ad m c news hl hnews h1 h63 hbytes;unfold Oper.wp execOp
 simp only[ho,resolve,invoke,builtin,Sem.run_bind,Sem.run_pure,Result.andThen_ok,List.map_toArray,List.map_cons,List.map_nil,hs,hx,hr];exact h v' w' h2 h3 h4 h5
theorem wpList_append_mine{ops:Array Oper}{rest:List Oper}{o:Oper}{a:Act}{Q:Exit→Act→World→Prop}(hgd:o.guard=none)(s x:Operand)(t:TypeId)
  (ho:o.op=.call {callee:=.builtin .append,args:=#[s,x],argTypes:=#[t,t]})
  (e:TypeId) (i:TypeInfo) (z:Value) (size bytes:Nat) (ht:P.underlying t=some (.slice e)) (hi:P.info? e=some i) (hz:i.zero=some z)
  (hsize:i.size=size) (hby:i.bytes=bytes) (hzs:z.cells.size=size) (hsz:0<size)
  (v:Value) (n:Nat) (xs:List Value) (hs:a.eval s=v) (hown:w.ownsRow 0 e size v n xs)
  (ad:Addr) (m c:Nat) (news:List Value) (hx:a.eval x=.slice (some ad) m c) (hl:news.length=m*size) (hnews:∀j u,news[j]?=some u→w.cell? (ad.add j)=some u) (h1:∀u∈news,u.oneCell'=true)
  (h63:n+m≤maxLen) (hbytes:(n+m)*bytes≤140737488355328)
  (h:∀v' w',w'.ownsRow 0 e size v' (n+m) (xs++news)→w.grownBy w' v.ownBlock→(∀g,v'.ownBlock=some g→v.ownBlock=some g∨w.heap.size≤g)→(v'=.slice none 0 0↔v=.slice none 0 0∧m=0)→wpList P ops Q rest (a.put o.dst v') w'):wpList P ops Q (o :: rest) a w:=
 wpList_plain hgd fun _ hK=>wp_append_mine w s x t ho e i z size bytes ht hi hz hsize hby hzs hsz v n xs hs hown ad m c news hx hl hnews h1 h63 hbytes fun v' w' h2 h3 h4 h5=>hK _ _ (h v' w' h2 h3 h4 h5)
theorem step_append_mine{ops:Array Oper}{o:Oper}{a:Act}{K:Act→World→Prop}{Q:Exit→Act→World→Prop}{E:Prop}(hgd:o.guard=none)(s x:Operand)(t:TypeId)
  (ho:o.op=.call {callee:=.builtin .append,args:=#[s,x],argTypes:=#[t,t]})
  (e:TypeId) (i:TypeInfo) (z:Value) (size bytes:Nat) (ht:P.underlying t=some (.slice e)) (hi:P.info? e=some i) (hz:i.zero=some z)
  (hsize:i.size=size) (hby:i.bytes=bytes) (hzs:z.cells.size=size) (hsz:0<size)
  (v:Value) (n:Nat) (xs:List Value) (hs:a.eval s=v) (hown:w.ownsRow 0 e size v n xs)
  (ad:Addr) (m c:Nat) (news:List Value) (hx:a.eval x=.slice (some ad) m c) (hl:news.length=m*size) (hnews:∀j u,news[j]?=some u→w.cell? (ad.add j)=some u) (h1:∀u∈news,u.oneCell'=true)
  (h63:n+m≤maxLen) (hbytes:(n+m)*bytes≤140737488355328)
  (h:∀v' w',w'.ownsRow 0 e size v' (n+m) (xs++news)→w.grownBy w' v.ownBlock→(∀g,v'.ownBlock=some g→v.ownBlock=some g∨w.heap.size≤g)→(v'=.slice none 0 0↔v=.slice none 0 0∧m=0)→K (a.put o.dst v') w') :
  if Region.wanted o (yielded ops a.tmps)=true then Oper.wp P o a w K Q else E:=by
 have hw:Region.wanted o (yielded ops a.tmps)=true:=by simp[Region.wanted,hgd]
 rw[if_pos hw];exact wp_append_mine w s x t ho e i z size bytes ht hi hz hsize hby hzs hsz v n xs hs hown ad m c news hx hl hnews h1 h63 hbytes h
end Qh
end
section
namespace Qh
open Go Go.RowKit
variable {P:Program}{w w':World}
def offRow(w:World)(e:TypeId)(size:Nat)(v:Value)(n:Nat)(xs:List Value):Prop:=
 xs.length=n*size∧((v=.slice none 0 0∧n=0)∨
  ∃g s cap cur,v=.slice (some ⟨g,s,none⟩) n cap∧w.heap[g]?=some (.cells cur e (0,0))∧n≤cap∧cap≤maxLen∧s+cap*size≤cur.size∧(cur.toList.drop s).take (n*size)=xs)
theorem offRow_nil(w:World)(e:TypeId)(size:Nat):offRow w e size (.slice none 0 0) 0 []:=⟨by simp,.inl ⟨rfl,rfl⟩⟩
theorem offRow.keep{e:TypeId}{size n:Nat}{v:Value}{xs:List Value}{F:Nat→Prop}(h:offRow w e size v n xs)(hM:Mod F w w')(hF:∀g,v.ownBlock=some g→¬F g):offRow w' e size v n xs:=by
 refine ⟨h.1,?_⟩
 rcases h.2 with e|⟨g,s,cap,cur,rfl,hg,r⟩
 ·exact .inl e
 ·exact .inr ⟨g,s,cap,cur,rfl,hM.heap hg (hF g rfl),r⟩
theorem offRow.lt{e:TypeId}{size n:Nat}{v:Value}{xs:List Value}(h:offRow w e size v n xs):∀g,v.ownBlock=some g→g<w.heap.size:=by
 intro g hg
 rcases h.2 with ⟨rfl,_⟩|⟨g',s,cap,cur,rfl,hg',r⟩
 ·simp[Value.ownBlock]at hg
 ·simp[Value.ownBlock]at hg;subst hg;exact lt_of_block hg'
theorem offRow.slice{e:TypeId}{size n:Nat}{v:Value}{xs:List Value}(h:offRow w e size v n xs):∃a c,v=.slice a n c∧n≤c∧c≤maxLen:=by
 rcases h.2 with ⟨rfl,rfl⟩|⟨g,s,cap,cur,rfl,_,h1,h2,_⟩
 ·exact ⟨none,0,rfl,Nat.le_refl _,Nat.zero_le _⟩
 ·exact ⟨_,_,rfl,h1,h2⟩
theorem offRow.cell{e:TypeId}{size n:Nat}{v:Value}{xs:List Value}(h:offRow w e size v n xs)(hn:0<n) :
  ∃g s c,v=.slice (some ⟨g,s,none⟩) n c∧g<w.heap.size∧(∀j,w.frozen? ⟨g,j,none⟩=false)∧∀j u,xs[j]?=some u→w.cell? ⟨g,s+j,none⟩=some u:=by
 rcases h.2 with ⟨rfl,h0⟩|⟨g,s,cap,cur,rfl,hg,h1,h2,h3,h4⟩
 ·omega
 ·refine ⟨g,s,cap,rfl,lt_of_block hg,fun j=>free_of_heap hg j,fun j u hu=>?_⟩;rw[cell_of_heap hg];rw[←h4,List.getElem?_take]at hu
  split at hu
  ·rw[List.getElem?_drop]at hu;simpa using hu
  ·cases hu
theorem offRow.tail{e:TypeId}{size n:Nat}{g s c:Nat}{xs:List Value}(h:offRow w e size (.slice (some ⟨g,s,none⟩) (n+1) c) (n+1) xs) :
  offRow w e size (.slice (if c=1 then some ⟨g,s,none⟩else some ⟨g,s+size,none⟩) n (c - 1)) n (xs.drop size):=by
 refine ⟨by rw[List.length_drop,h.1,Nat.add_mul];omega,?_⟩
 rcases h.2 with ⟨h0,_⟩|⟨g',s',cap,cur,e1,hg,h1,h2,h3,h4⟩
 ·cases h0
 ·simp only[Value.slice.injEq,Option.some.injEq,Addr.mk.injEq,and_true,true_and]at e1;obtain ⟨⟨rfl,rfl⟩,rfl⟩:=e1;right
  by_cases hc:c=1
  ·subst hc
   obtain rfl:n=0:=by omega
   refine ⟨g,s,0,cur,by simp,hg,Nat.le_refl _,by omega,by omega,?_⟩;have:=h.1;simp at this;simp[←this]
  ·refine ⟨g,s+size,c - 1,cur,by simp[hc],hg,by omega,by omega,?_,?_⟩
   ·have:c*size=(c - 1)*size+size:=by
     conv=>lhs;rw[show c=(c - 1)+1 by omega,Nat.add_mul,Nat.one_mul]
    omega
   ·rw[←h4,List.drop_take,List.drop_drop]
    congr 1
    rw[Nat.add_mul];omega
theorem run_append_off(w:World)(t ty e:TypeId)(i:TypeInfo)(z:Value)(size bytes:Nat)(ht:P.underlying t=some (.slice e))(hi:P.info? e=some i)(hz:i.zero=some z)
  (hsize:i.size=size) (hby:i.bytes=bytes) (hzs:z.cells.size=size) (hsz:0<size)
  (v:Value) (n:Nat) (xs:List Value) (hown:offRow w e size v n xs)
  (a:Addr) (m c:Nat) (news:List Value) (hl:news.length=m*size) (hnews:∀j u,news[j]?=some u→w.cell? (a.add j)=some u) (h1:∀u∈news,u.oneCell'=true)
  (h63:n+m≤maxLen) (hbytes:(n+m)*bytes≤140737488355328) (hm0:0<m) :
  ∃v' w',(Builtin.append_ #[t,t] ty #[v,.slice (some a) m c]).run P w=.ok v' w'∧offRow w' e size v' (n+m) (xs++news)∧w.grownBy w' v.ownBlock∧
   (∀g,v'.ownBlock=some g→v.ownBlock=some g∨w.heap.size≤g):=by
 subst hsize;subst hby
 have hlen:(xs++news).length=(n+m)*i.size:=by rw[List.length_append,hown.1,hl,Nat.add_mul]
 have grown:∀(old:Nat),old<n+m→∀(row:Option Nat),
   offRow (w.drew.alloc (.cells (xs.toArray++news.toArray++Builtin.zeroCells z.cells (grownCap w (n+m) old e - (n+m))) e)) e i.size
    (.slice (some ⟨w.heap.size,0,none⟩) (n+m) (grownCap w (n+m) old e)) (n+m) (xs++news)∧
   w.grownBy (w.drew.alloc (.cells (xs.toArray++news.toArray++Builtin.zeroCells z.cells (grownCap w (n+m) old e - (n+m))) e)) row:=by
  intro old ho row;have hge:=grownCap_ge w (n+m) old e;have hcm:grownCap w (n+m) old e≤maxLen:=grownCap_le_maxLen w (n+m) old e h63;refine ⟨⟨hlen,.inr ⟨w.heap.size,0,_,_,rfl,heap_alloc_new w.drew _,hge,hcm,?_,?_⟩⟩,⟨rfl,rfl,rfl,by simp,fun k hk _=>heap_alloc_old w.drew _ k hk⟩⟩
  ·have hs:(xs.toArray++news.toArray++Builtin.zeroCells z.cells (grownCap w (n+m) old e - (n+m))).size=grownCap w (n+m) old e*i.size:=by
    simp only[Array.size_append,List.size_toArray,size_zeroCells,hzs,hown.1,hl,←Nat.add_mul]
    congr 1
    omega
   omega
  ·simp only[Array.toList_append,List.append_assoc,List.drop_zero];rw[←List.append_assoc,←hlen];exact List.take_left
 rcases hown.2 with ⟨rfl,rfl⟩|⟨g,s,cap,cur,rfl,hg,hnc,hcm,hcs,htake⟩
 ·have hx:xs=[]:=List.eq_nil_of_length_eq_zero (by simpa using hown.1);subst hx;have hr:=run_append_nil (P:=P) w t ty e i z ht hi hz a m c news hl hnews (by omega) (by unfold maxLen at h63;omega) (by have hb:=hbytes;simp only[Nat.zero_add]at hb;omega)
  have hgr:=grown 0 (by omega) (Value.ownBlock (.slice none 0 0));simp only[Nat.zero_add,List.nil_append,Array.empty_append]at hgr ⊢;exact ⟨_,_,hr,hgr.1,hgr.2,fun k hk=>.inr (by simp[Value.ownBlock]at hk;omega)⟩
 ·by_cases hroom:n+m≤cap
  ·have hmul:(n+m)*i.size≤cap*i.size:=Nat.mul_le_mul_right _ hroom;rw[Nat.add_mul]at hmul;have hf:=run_firstCells_some (P:=P) w i.size m a m c news hl hnews;have hst:=run_storeCells_at P g (s+n*i.size) e news 0 cur w hg (by rw[Nat.add_zero];omega) h1;simp only[Nat.add_zero]at hst
   have hr:(Builtin.append_ #[t,t] ty #[.slice (some ⟨g,s,none⟩) n cap,.slice (some a) m c]).run P w=.ok (.slice (some ⟨g,s,none⟩) (n+m) cap) (w.setRow g (cur.toList.take (s+n*i.size)++news++cur.toList.drop (s+n*i.size+news.length)).toArray):=by
    simp[Builtin.append_,run_underlying ht,Go.sizeOf,Go.typeInfo,hi,Builtin.lenOf,hroom,hf,Addr.add_lit,hst]
   refine ⟨_,_,hr,⟨hlen,.inr ⟨g,s,cap,_,rfl,setRow_heap w g cur _ e _ hg,hroom,hcm,?_,?_⟩⟩,⟨rfl,rfl,rfl,by simp,fun k _ hk=>setRow_other w g k _ (fun e=>hk (by simp[Value.ownBlock,e]))⟩,fun k hk=>.inl (by simpa[Value.ownBlock]using hk)⟩
   ·simp only[List.size_toArray,List.length_append,List.length_take,List.length_drop,Array.length_toList];omega
   ·have hsz2:s+n*i.size≤cur.toList.length:=by simp;omega
    have e1:(cur.toList.take (s+n*i.size)++news++cur.toList.drop (s+n*i.size+news.length)).drop s=xs++(news++cur.toList.drop (s+n*i.size+news.length)):=by
     rw[List.append_assoc,List.drop_append_of_le_length (by rw[List.length_take];omega),←htake]
     congr 1
     rw[List.drop_take]
     congr 1
     omega
    show List.take ((n+m)*i.size) (List.drop s (cur.toList.take (s+n*i.size)++news++cur.toList.drop (s+n*i.size+news.length)))=xs++news;rw[e1,←List.append_assoc,←hlen];exact List.take_left
  ·have hx0:0<n∨n=0:=by omega
   have holds:∀j u,xs[j]?=some u→w.cell? ((⟨g,s,none⟩:Addr).add j)=some u:=by
    intro j u hu;have hjl:=(List.getElem?_eq_some_iff.1 hu).1
    have hn:0<n:=by
     rcases hx0 with h|h
     ·exact h
     ·rw[hown.1,h]at hjl;simp at hjl
    obtain ⟨g',s',c',e',_,_,hc'⟩:=hown.cell hn;simp only[Value.slice.injEq,Option.some.injEq,Addr.mk.injEq,and_true,true_and]at e';obtain ⟨⟨rfl,rfl⟩,rfl⟩:=e';rw[Addr.add_lit];exact hc' j u hu
   have hr:=run_append_grow (P:=P) w t ty e i z ht hi hz ⟨g,s,none⟩ n cap xs hown.1 holds a m c news hl hnews (by omega) (by unfold maxLen at h63;omega) (growslice_fits (by omega) hbytes);have hgr:=grown cap (by omega) (Value.ownBlock (.slice (some ⟨g,s,none⟩) n cap))
   exact ⟨_,_,hr,hgr.1,hgr.2,fun k hk=>.inr (by simp[Value.ownBlock]at hk;omega)⟩
theorem wp_append_off{o:Oper}{a:Act}{K:Act→World→Prop}{Q:Exit→Act→World→Prop}(s x:Operand)(t:TypeId)
  (ho:o.op=.call {callee:=.builtin .append,args:=#[s,x],argTypes:=#[t,t]})
  (e:TypeId) (i:TypeInfo) (z:Value) (size bytes:Nat) (ht:P.underlying t=some (.slice e)) (hi:P.info? e=some i) (hz:i.zero=some z)
  (hsize:i.size=size) (hby:i.bytes=bytes) (hzs:z.cells.size=size) (hsz:0<size)
  (v:Value) (n:Nat) (xs:List Value) (hs:a.eval s=v) (hown:offRow w e size v n xs)
  (ad:Addr) (m c:Nat) (news:List Value) (hx:a.eval x=.slice (some ad) m c) (hl:news.length=m*size) (hnews:∀j u,news[j]?=some u→w.cell? (ad.add j)=some u) (h1:∀u∈news,u.oneCell'=true)
  (h63:n+m≤maxLen) (hbytes:(n+m)*bytes≤140737488355328) (hm0:0<m)
  (h:∀v' w',offRow w' e size v' (n+m) (xs++news)→w.grownBy w' v.ownBlock→(∀g,v'.ownBlock=some g→v.ownBlock=some g∨w.heap.size≤g)→K (a.put o.dst v') w'):o.wp P a w K Q:=by
 obtain ⟨v',w',hr,h2,h3,h4⟩:=run_append_off (P:=P) w t o.type e i z size bytes ht hi hz hsize hby hzs hsz v n xs hown ad m c news hl hnews h1 h63 hbytes hm0;unfold Oper.wp execOp
 simp only[ho,resolve,invoke,builtin,Sem.run_bind,Sem.run_pure,Result.andThen_ok,List.map_toArray,List.map_cons,List.map_nil,hs,hx,hr];exact h v' w' h2 h3 h4
theorem step_append_off{ops:Array Oper}{o:Oper}{a:Act}{K:Act→World→Prop}{Q:Exit→Act→World→Prop}{E:Prop}(hgd:o.guard=none)(s x:Operand)(t:TypeId)
  (ho:o.op=.call {callee:=.builtin .append,args:=#[s,x],argTypes:=#[t,t]})
  (e:TypeId) (i:TypeInfo) (z:Value) (size bytes:Nat) (ht:P.underlying t=some (.slice e)) (hi:P.info? e=some i) (hz:i.zero=some z)
  (hsize:i.size=size) (hby:i.bytes=bytes) (hzs:z.cells.size=size) (hsz:0<size)
  (v:Value) (n:Nat) (xs:List Value) (hs:a.eval s=v) (hown:offRow w e size v n xs)
  (ad:Addr) (m c:Nat) (news:List Value) (hx:a.eval x=.slice (some ad) m c) (hl:news.length=m*size) (hnews:∀j u,news[j]?=some u→w.cell? (ad.add j)=some u) (h1:∀u∈news,u.oneCell'=true)
  (h63:n+m≤maxLen) (hbytes:(n+m)*bytes≤140737488355328) (hm0:0<m)
  (h:∀v' w',offRow w' e size v' (n+m) (xs++news)→w.grownBy w' v.ownBlock→(∀g,v'.ownBlock=some g→v.ownBlock=some g∨w.heap.size≤g)→K (a.put o.dst v') w') :
  if Region.wanted o (yielded ops a.tmps)=true then Oper.wp P o a w K Q else E:=by
 have hw:Region.wanted o (yielded ops a.tmps)=true:=by simp[Region.wanted,hgd]
 rw[if_pos hw];exact wp_append_off s x t ho e i z size bytes ht hi hz hsize hby hzs hsz v n xs hs hown ad m c news hx hl hnews h1 h63 hbytes hm0 h
theorem flat_wt_snoc(x:Qs.Wt):∀(l:List Qs.Wt) (s:Nat),flat wtVals s (l++[x])=flat wtVals s l++[.int .i64 x.c,.int .i64 x.g,.int .i64 x.w,.int .i64 x.v]
 |[],s=>rfl
 |y :: l,s=>by simp[flat,flat_wt_snoc x l]
end Qh
end
section
namespace Qh
open Go Go.RowKit Qs
variable {τ : Ty}{K:Nat→Bool}{w w':World}{L L':Lay}{m m':M}{N:Int}
def Lay.at_(L:Lay)(k i b:Nat)(nl:Bool)(s:Nat)(jk:List Value):Lay:=
 {L with blk:=fun a j=>if a=k∧j=i then b else L.blk a j,nil:=fun a j=>if a=k∧j=i then nl else L.nil a j,sp:=fun a j=>if a=k∧j=i then s else L.sp a j,junk:=fun a j=>if a=k∧j=i then jk else L.junk a j}
section
variable (L:Lay)(k i b:Nat)(nl:Bool)(s:Nat)(jk:List Value)(a j n:Nat)
theorem at_blk(h:¬(a=k∧j=i)):(L.at_ k i b nl s jk).blk a j=L.blk a j:=by simp only[Lay.at_,if_neg h]
theorem at_nil(h:¬(a=k∧j=i)):(L.at_ k i b nl s jk).nil a j=L.nil a j:=by simp only[Lay.at_,if_neg h]
theorem at_sp(h:¬(a=k∧j=i)):(L.at_ k i b nl s jk).sp a j=L.sp a j:=by simp only[Lay.at_,if_neg h]
theorem at_junk(h:¬(a=k∧j=i)):(L.at_ k i b nl s jk).junk a j=L.junk a j:=by simp only[Lay.at_,if_neg h]
theorem at_row(h:¬(a=k∧j=i)):(L.at_ k i b nl s jk).row a j n=L.row a j n:=by simp only[Lay.row,Lay.at_,if_neg h]
theorem at_self:(L.at_ k i b nl s jk).blk k i=b∧(L.at_ k i b nl s jk).nil k i=nl∧(L.at_ k i b nl s jk).sp k i=s∧(L.at_ k i b nl s jk).junk k i=jk:=by simp[Lay.at_]
theorem at_code:(L.at_ k i b nl s jk).code=L.code:=rfl
end
theorem Rep.rerow(R:Rep τ K w L m){p q k i b:Nat}{nl:Bool}{s:Nat}{jk:List Value}(hp:K p=true)(hk:K k=true)(hne:¬(p=k∧q=i))(hps:(obj τ L m p q).isSome)
  (hks:L.nil k i=false→(obj τ L m k i).isSome) (hnil:nl=true→obj τ (L.at_ k i b nl s jk) m' k i=none)
  (hM:Mod (fun x=>x=L.blk p q∨(L.nil k i=false∧x=L.blk k i)) w w')
  (hfresh:nl=false→(L.nil k i=false∧b=L.blk k i)∨w.heap.size≤b)
  (hoth:∀a j,¬(a=k∧j=i)→¬(a=p∧j=q)→obj τ (L.at_ k i b nl s jk) m' a j=obj τ L m a j)
  (hpar:∀cs T,obj τ (L.at_ k i b nl s jk) m' p q=some (cs,T)→w'.heap[L.blk p q]?=some (.cells cs.toArray T (0,0)))
  (hch:∀cs T,obj τ (L.at_ k i b nl s jk) m' k i=some (cs,T)→w'.heap[b]?=some (.cells cs.toArray T (0,0))) :
  Rep τ K w' (L.at_ k i b nl s jk) m':=by
 have hsome:∀a j,¬(a=k∧j=i)→(obj τ (L.at_ k i b nl s jk) m' a j).isSome→(obj τ L m a j).isSome:=by
  intro a j h hs
  by_cases e:a=p∧j=q
  ·obtain ⟨rfl,rfl⟩:=e;exact hps
  ·rw[hoth a j h e]at hs;exact hs
 have hbl:∀a j,¬(a=k∧j=i)→(L.at_ k i b nl s jk).blk a j=L.blk a j:=fun a j h=>at_blk L k i b nl s jk a j h;have hbk:=(at_self L k i b nl s jk).1;refine ⟨fun a j cs T hK ho=>?_,fun a j c l ha hc h1 h2 he=>?_⟩
 ·by_cases e1:a=k∧j=i
  ·obtain ⟨rfl,rfl⟩:=e1;rw[hbk];exact hch cs T ho
  ·by_cases e2:a=p∧j=q
   ·obtain ⟨rfl,rfl⟩:=e2;rw[hbl _ _ e1];exact hpar cs T ho
   ·have e:=hoth a j e1 e2;refine R.keep hM hK ho e (hbl _ _ e1) ?_;rintro (h|⟨hn,h⟩)
    ·exact R.ne hK hp (by rw[←e,ho];rfl) hps e2 h
    ·exact R.ne hK hk (by rw[←e,ho];rfl) (hks hn) e1 h
 ·have key:∀c l,K c=true→¬(c=k∧l=i)→(obj τ (L.at_ k i b nl s jk) m' k i).isSome→(obj τ (L.at_ k i b nl s jk) m' c l).isSome→(L.at_ k i b nl s jk).blk c l=b→False:=by
   intro c l hc e2 h1 h2 he;rw[hbl _ _ e2]at he
   cases hnl:nl with
   |true=>rw[hnil hnl]at h1;cases h1
   |false=>
    rcases hfresh hnl with ⟨hn,hb⟩|hb
    ·exact R.ne hc hk (hsome _ _ e2 h2) (hks hn) e2 (he.trans hb)
    ·have:=R.lt ⟨c,l,hc,hsome _ _ e2 h2,rfl⟩;omega
  by_cases e1:a=k∧j=i
  ·by_cases e2:c=k∧l=i
   ·exact ⟨e1.1.trans e2.1.symm,e1.2.trans e2.2.symm⟩
   ·obtain ⟨rfl,rfl⟩:=e1;rw[hbk]at he;exact (key c l hc e2 h1 h2 he.symm).elim
  ·by_cases e2:c=k∧l=i
   ·obtain ⟨rfl,rfl⟩:=e2;rw[hbk]at he;exact (key a j ha e1 h2 h1 he).elim
   ·refine R.inj a j c l ha hc (hsome _ _ e1 h1) (hsome _ _ e2 h2) ?_;rw[←hbl _ _ e1,←hbl _ _ e2];exact he
structure Ext(L L':Lay):Prop where
 same:∀a i,a≠6→a≠7→L'.blk a i=L.blk a i∧L'.nil a i=L.nil a i∧L'.sp a i=L.sp a i∧L'.junk a i=L.junk a i
 code:L'.code=L.code
theorem Ext.refl(L:Lay):Ext L L:=⟨fun _ _ _ _=>⟨rfl,rfl,rfl,rfl⟩,rfl⟩
theorem Ext.trans{L L' L'':Lay}(h:Ext L L')(k:Ext L' L''):Ext L L'':=
 ⟨fun a i h6 h7=>let x:=h.same a i h6 h7;let y:=k.same a i h6 h7;⟨y.1.trans x.1,y.2.1.trans x.2.1,y.2.2.1.trans x.2.2.1,y.2.2.2.trans x.2.2.2⟩,k.code.trans h.code⟩
theorem Ext.at_(L:Lay)(k i b:Nat)(nl:Bool)(s:Nat)(jk:List Value)(hk:k=6∨k=7):Ext L (L.at_ k i b nl s jk):=
 ⟨fun a j h6 h7=>by
  have h:¬(a=k∧j=i):=by omega
  exact ⟨at_blk L k i b nl s jk a j h,at_nil L k i b nl s jk a j h,at_sp L k i b nl s jk a j h,at_junk L k i b nl s jk a j h⟩,rfl⟩
structure Up(τ : Ty)(K:Nat→Bool)(w:World)(L:Lay)(m:M)(w':World)(L':Lay)(m':M):Prop where
 rep:Rep τ K w' L' m'
 ok:OkL L' m'
 ext:Ext L L'
 mod:Mod (Foot τ K L m) w w'
 foot:∀k,Foot τ K L' m' k→Foot τ K L m k∨w.heap.size≤k
theorem Up.refl(R:Rep τ K w L m)(ol:OkL L m):Up τ K w L m w L m:=⟨R,ol,Ext.refl L,Mod.refl _ _,fun _ h=>.inl h⟩
theorem Up.trans{w1 w2 w3:World}{L1 L2 L3:Lay}{m1 m2 m3:M}(h:Up τ K w1 L1 m1 w2 L2 m2)(k:Up τ K w2 L2 m2 w3 L3 m3):Up τ K w1 L1 m1 w3 L3 m3:=
 ⟨k.rep,k.ok,h.ext.trans k.ext,h.mod.trans k.mod (fun x hx hf=>(h.foot x hf).resolve_right (by omega)),
  fun x hx=>(k.foot x hx).elim (fun e=>h.foot x e) (fun e=>.inr (Nat.le_trans h.mod.size e))⟩
theorem Up.quiet(R:Rep τ K w L m)(ol:OkL L m)(h:Mod noF w w'):Up τ K w L m w' L m:=⟨R.frame0 h,ol,Ext.refl L,h.any,fun _ h=>.inl h⟩
theorem Up.then0{w1 w2 w3:World}{L1 L2:Lay}{m1 m2:M}(h:Up τ K w1 L1 m1 w2 L2 m2)(k:Mod noF w2 w3):Up τ K w1 L1 m1 w3 L2 m2:=h.trans (Up.quiet h.rep h.ok k)
theorem foot_at{k i b:Nat}{nl:Bool}{s:Nat}{jk:List Value}{p q:Nat}(hp:K p=true)(hk:K k=true)(hps:(obj τ L m p q).isSome)(hks:L.nil k i=false→(obj τ L m k i).isSome)
  (hnil:nl=true→obj τ (L.at_ k i b nl s jk) m' k i=none) (hfresh:nl=false→(L.nil k i=false∧b=L.blk k i)∨w.heap.size≤b)
  (hoth:∀a j,¬(a=k∧j=i)→¬(a=p∧j=q)→obj τ (L.at_ k i b nl s jk) m' a j=obj τ L m a j) :
  ∀x,Foot τ K (L.at_ k i b nl s jk) m' x→Foot τ K L m x∨w.heap.size≤x:=by
 rintro x ⟨a,j,hK,hs,rfl⟩
 by_cases e1:a=k∧j=i
 ·obtain ⟨rfl,rfl⟩:=e1;rw[(at_self L a j b nl s jk).1]
  cases hnl:nl with
  |true=>rw[hnil hnl]at hs;cases hs
  |false=>
   rcases hfresh hnl with ⟨hn,hb⟩|hb
   ·exact .inl ⟨a,j,hk,hks hn,hb.symm⟩
   ·exact .inr hb
 ·rw[at_blk L k i b nl s jk a j e1]
  by_cases e2:a=p∧j=q
  ·obtain ⟨rfl,rfl⟩:=e2;exact .inl ⟨a,j,hp,hps,rfl⟩
  ·rw[hoth a j e1 e2]at hs;exact .inl ⟨a,j,hK,hs,rfl⟩
theorem waits_obj(τ : Ty)(L:Lay)(m:M)(t b:Nat)(nl:Bool)(s:Nat)(jk:List Value)(l':List Wt)(a j:Nat)(h7:¬(a=7∧j=t))(h3:¬(a=3∧j=0)) :
  obj τ (L.at_ 7 t b nl s jk) {m with waits:=m.waits.set t l'} a j=obj τ L m a j:=by
 have ec:cellVals (L.at_ 7 t b nl s jk)=cellVals L:=by funext i c;simp[cellVals,at_row]
 have et:thrVals (L.at_ 7 t b nl s jk)=thrVals L:=by funext i c;simp[thrVals,at_row,at_code]
 match a with
 |0=>simp[obj,at_row,at_blk]
 |1=>simp[obj,at_row]
 |2=>simp[obj,ec,at_nil,at_junk]
 |3=>have:j≠0:=fun e=>h3 ⟨rfl,e⟩;simp[obj,this]
 |4=>simp[obj,et,at_nil,at_junk]
 |5=>simp[obj,at_nil,at_junk]
 |6=>simp[obj,at_nil,at_junk]
 |7=>
  have hj:j≠t:=fun e=>h7 ⟨rfl,e⟩;have hj':t≠j:=fun e=>hj e.symm;simp[obj,at_nil,at_junk,hj,hj',List.getElem?_set]
 |8=>simp[obj,at_nil,at_junk]
 |n+9=>rfl
theorem waits_flat(L:Lay)(t b:Nat)(nl:Bool)(s:Nat)(jk:List Value){l:List Wt}(l':List Wt)(ws:List (List Wt))(ht:ws[t]?=some l)(r:List Value) :
  flat (waitsVals (L.at_ 7 t b nl s jk)) 0 (ws.set t l')++r=(flat (waitsVals L) 0 ws++r).set t ((L.at_ 7 t b nl s jk).row 7 t l'.length):=by
 have hlt:t<ws.length:=(List.getElem?_eq_some_iff.1 ht).1
 have hgen:∀(ws:List (List Wt)) (s0 t0:Nat),t0<ws.length→s0+t0=t→
   flat (waitsVals (L.at_ 7 t b nl s jk)) s0 (ws.set t0 l')++r=(flat (waitsVals L) s0 ws++r).set t0 ((L.at_ 7 t b nl s jk).row 7 t l'.length):=by
  intro ws
  induction ws with
  |nil=>intro s0 t0 h;simp at h
  |cons x ws ih=>
   intro s0 t0 h e
   cases t0 with
   |zero=>
    have e':s0=t:=by omega
    subst e'
    have hc:flat (waitsVals (L.at_ 7 s0 b nl s jk)) (s0+1) ws=flat (waitsVals L) (s0+1) ws:=by
     refine flat_congr ws ws _ rfl fun i a c h1 h2=>?_;rw[h1]at h2;cases h2;simp[waitsVals,at_row L 7 s0 b nl s jk 7 (s0+1+i) _ (by omega)]
    simp[flat,waitsVals]at hc ⊢;exact hc
   |succ t0=>
    have hx:waitsVals (L.at_ 7 t b nl s jk) s0 x=waitsVals L s0 x:=by
     simp[waitsVals,at_row L 7 t b nl s jk 7 s0 _ (by omega)]
    have:=ih (s0+1) t0 (by simpa using h) (by omega);simp only[List.set_cons_succ,flat,hx,List.append_assoc,this];simp[waitsVals]
 exact hgen ws 0 t hlt (by omega)
theorem Rep.owns7(R:Rep τ K w L m)(h7:K 7=true)(ol:OkL L m){t:Nat}{l:List Wt}(hl:m.waits[t]?=some l):w.ownsRow 0 τ.wait 4 (L.row 7 t l.length) l.length (flat wtVals 0 l):=by
 refine ⟨flat_length wtVals 4 (fun _ _=>rfl) l 0,?_⟩
 cases hn:L.nil 7 t with
 |true=>
  have:=ol.n7 t l hl hn;subst this;exact .inl ⟨by simp[Lay.row,hn],rfl⟩
 |false=>
  refine .inr ⟨L.blk 7 t,l.length+L.sp 7 t,(flat wtVals 0 l++L.junk 7 t).toArray,row_some hn,Nat.zero_le _,R.at_ 7 t _ _ h7 (obj7 τ hn hl),by omega,ol.sp7 t l hl hn,?_,?_⟩
  ·simp[flat_length wtVals 4 (fun _ _=>rfl),ol.j7 t];omega
  ·simp only[List.toList_toArray];rw[←flat_length wtVals 4 (fun _ _=>rfl) l 0];exact List.take_left
theorem row_own{L:Lay}{k i n x:Nat}(h:(L.row k i n).ownBlock=some x):L.nil k i=false∧x=L.blk k i:=by
 unfold Lay.row at h
 cases hn:L.nil k i with
 |true=>rw[hn]at h;simp[Value.ownBlock]at h
 |false=>rw[hn]at h;simp[Value.ownBlock]at h;exact ⟨rfl,h.symm⟩
theorem slice_of_own{w:World}{b:Nat}{e:TypeId}{size:Nat}{v:Value}{n:Nat}{xs:List Value}(h:w.ownsRow b e size v n xs):∃a c d,v=.slice a c d:=by
 rcases h.2 with ⟨rfl,_⟩|⟨g,cap,cur,rfl,_⟩
 ·exact ⟨_,_,_,rfl⟩
 ·exact ⟨_,_,_,rfl⟩
theorem Rep.heap3(R:Rep τ K w L m)(h1:K 1=true)(h3:K 3=true)(ol:OkL L m){F:Nat→Prop}(hM:Mod F w w')(hF1:¬F (L.blk 1 0))(hF3:¬F (L.blk 3 0)){t:Nat}{l:List Wt}(hl:m.waits[t]?=some l) :
  w'.cell? ⟨L.blk 1 0,1,none⟩=some (.slice (some ⟨L.blk 3 0,0,none⟩) m.waits.length (m.waits.length+L.sp 3 0))∧w'.cell? ⟨L.blk 3 0,t,none⟩=some (L.row 7 t l.length)∧w'.frozen? ⟨L.blk 3 0,t,none⟩=false∧
  w'.heap[L.blk 3 0]?=some (.cells (flat (waitsVals L) 0 m.waits++L.junk 3 0).toArray τ.waits (0,0)):=by
 have e3:=hM.heap (R.at_ 3 0 _ _ h3 (obj3 τ m ol.n3)) hF3;refine ⟨hM.cell (R.waits_at h1 ol) hF1,?_,free_of_heap e3 t,e3⟩;rw[cell_of_heap e3];have hg:=flat_get (waitsVals L) 1 (fun _ _=>rfl) (j:=0) (by omega) m.waits 0 t l hl (L.junk 3 0);rw[show t*1+0=t from by omega]at hg
 simpa[waitsVals]using hg
theorem Rep.rewait(R:Rep τ K w L m)(h3:K 3=true)(h7:K 7=true)(ol:OkL L m){t:Nat}{l l':List Wt}{v':Value}(hl:m.waits[t]?=some l)
  (hM:Mod (fun x=>x=L.blk 3 0∨(L.nil 7 t=false∧x=L.blk 7 t)) w w')
  (hpar:w'.heap[L.blk 3 0]?=some (.cells ((flat (waitsVals L) 0 m.waits++L.junk 3 0).set t v').toArray τ.waits (0,0)))
  (hown:w'.ownsRow 0 τ.wait 4 v' l'.length (flat wtVals 0 l')) (hfr:∀g,v'.ownBlock=some g→(L.nil 7 t=false∧g=L.blk 7 t)∨w.heap.size≤g) :
  ∃L',Up τ K w L m w' L' {m with waits:=m.waits.set t l'}:=by
 have hMod:Mod (Foot τ K L m) w w':=hM.mono fun x _ hx=>hx.elim (fun e=>⟨3,0,h3,by rw[obj3 τ m ol.n3];rfl,e.symm⟩) (fun e=>⟨7,t,h7,by rw[obj7 τ e.1 hl];rfl,e.2.symm⟩);have hlt:t<m.waits.length:=(List.getElem?_eq_some_iff.1 hl).1
 have hps:(obj τ L m 3 0).isSome:=by rw[obj3 τ m ol.n3];rfl
 have hks:L.nil 7 t=false→(obj τ L m 7 t).isSome:=fun h=>by rw[obj7 τ h hl];rfl
 rcases hown.2 with ⟨rfl,h0⟩|⟨g,cap,cur,rfl,_,hg,hn,hcm,hcs,htake⟩
 ·have hl0:l'=[]:=List.eq_nil_of_length_eq_zero h0;subst hl0
  refine ⟨L.at_ 7 t 0 true 0 [],R.rerow (p:=3) (q:=0) h3 h7 (by omega) hps hks (fun _=>by simp[obj,(at_self L 7 t 0 true 0 []).2.1]) hM (fun h=>by cases h) (waits_obj τ L m t 0 true 0 [] []) (fun cs T ho=>?_) (fun cs T ho=>?_),⟨?_,?_,?_,?_,?_,?_,?_,?_⟩,Ext.at_ L 7 t _ _ _ _ (by omega),hMod,foot_at (p:=3) (q:=0) h3 h7 hps hks (fun _=>by simp[obj,(at_self L 7 t 0 true 0 []).2.1]) (fun h=>by cases h) (waits_obj τ L m t 0 true 0 [] [])⟩
  ·rw[obj3 τ _ (by rw[at_nil L 7 t 0 true 0 [] 3 0 (by omega)];exact ol.n3)]at ho;cases ho;rw[at_junk L 7 t 0 true 0 [] 3 0 (by omega),waits_flat L t 0 true 0 [] [] m.waits hl]
   have:(L.at_ 7 t 0 true 0 []).row 7 t 0=.slice none 0 0:=by simp[Lay.row,(at_self L 7 t 0 true 0 []).2.1]
   simp only[List.length_nil,this];exact hpar
  ·simp[obj,(at_self L 7 t 0 true 0 []).2.1]at ho
  ·rw[at_nil L 7 t 0 true 0 [] 2 0 (by omega)];exact ol.n2
  ·rw[at_nil L 7 t 0 true 0 [] 3 0 (by omega)];exact ol.n3
  ·intro i hi;rw[at_nil L 7 t 0 true 0 [] 6 i (by omega)];exact ol.n6 i hi
  ·intro u l1 h1 h2
   by_cases e:u=t
   ·subst e;simp[hlt]at h1;exact h1
   ·rw[at_nil L 7 t 0 true 0 [] 7 u (by omega)]at h2;rw[List.getElem?_set,if_neg (fun h=>e h.symm)]at h1;exact ol.n7 u l1 h1 h2
  ·rw[at_sp L 7 t 0 true 0 [] 2 0 (by omega)];exact ol.sp2
  ·rw[at_sp L 7 t 0 true 0 [] 3 0 (by omega)];simpa using ol.sp3
  ·intro u l1 h1 h2
   by_cases e:u=t
   ·subst e;simp[(at_self L 7 u 0 true 0 []).2.1]at h2
   ·rw[at_nil L 7 t 0 true 0 [] 7 u (by omega)]at h2;rw[List.getElem?_set,if_neg (fun h=>e h.symm)]at h1;rw[at_sp L 7 t 0 true 0 [] 7 u (by omega)];exact ol.sp7 u l1 h1 h2
  ·intro u
   by_cases e:u=t
   ·subst e;rw[(at_self L 7 u 0 true 0 []).2.2.1,(at_self L 7 u 0 true 0 []).2.2.2];rfl
   ·rw[at_junk L 7 t 0 true 0 [] 7 u (by omega),at_sp L 7 t 0 true 0 [] 7 u (by omega)];exact ol.j7 u
 ·have hjl:(cur.toList.drop (l'.length*4)).length=(cap - l'.length)*4:=by simp[hcs];omega
  have hcur:cur=(flat wtVals 0 l'++cur.toList.drop (l'.length*4)).toArray:=by
   apply Array.ext';rw[←htake];simp
  have hs:=at_self L 7 t g false (cap - l'.length) (cur.toList.drop (l'.length*4))
  refine ⟨L.at_ 7 t g false (cap - l'.length) (cur.toList.drop (l'.length*4)),R.rerow (p:=3) (q:=0) h3 h7 (by omega) hps hks (fun h=>by cases h) hM (fun _=>hfr g rfl) (waits_obj τ L m t g false _ _ l') (fun cs T ho=>?_) (fun cs T ho=>?_),⟨?_,?_,?_,?_,?_,?_,?_,?_⟩,Ext.at_ L 7 t _ _ _ _ (by omega),hMod,foot_at (p:=3) (q:=0) h3 h7 hps hks (fun h=>by cases h) (fun _=>hfr g rfl) (waits_obj τ L m t g false _ _ l')⟩
  ·rw[obj3 τ _ (by rw[at_nil L 7 t _ _ _ _ 3 0 (by omega)];exact ol.n3)]at ho;cases ho;rw[at_junk L 7 t _ _ _ _ 3 0 (by omega),waits_flat L t _ _ _ _ l' m.waits hl]
   have:(L.at_ 7 t g false (cap - l'.length) (cur.toList.drop (l'.length*4))).row 7 t l'.length=.slice (some ⟨g,0,none⟩) l'.length cap:=by
    simp only[Lay.row,hs.1,hs.2.1,hs.2.2.1];rw[if_neg (by decide),show l'.length+(cap - l'.length)=cap from by omega]
   rw[this];exact hpar
  ·rw[obj7 τ hs.2.1 (l:=l') (by simp[hlt]),hs.2.2.2]at ho;cases ho;rw[←hcur];exact hg
  ·rw[at_nil L 7 t _ _ _ _ 2 0 (by omega)];exact ol.n2
  ·rw[at_nil L 7 t _ _ _ _ 3 0 (by omega)];exact ol.n3
  ·intro i hi;rw[at_nil L 7 t _ _ _ _ 6 i (by omega)];exact ol.n6 i hi
  ·intro u l1 h1 h2
   by_cases e:u=t
   ·subst e;rw[hs.2.1]at h2;cases h2
   ·rw[at_nil L 7 t _ _ _ _ 7 u (by omega)]at h2;rw[List.getElem?_set,if_neg (fun h=>e h.symm)]at h1;exact ol.n7 u l1 h1 h2
  ·rw[at_sp L 7 t _ _ _ _ 2 0 (by omega)];exact ol.sp2
  ·rw[at_sp L 7 t _ _ _ _ 3 0 (by omega)];simpa using ol.sp3
  ·intro u l1 h1 h2
   by_cases e:u=t
   ·subst e;simp[hlt]at h1;subst h1;rw[hs.2.2.1];omega
   ·rw[at_nil L 7 t _ _ _ _ 7 u (by omega)]at h2;rw[List.getElem?_set,if_neg (fun h=>e h.symm)]at h1;rw[at_sp L 7 t _ _ _ _ 7 u (by omega)];exact ol.sp7 u l1 h1 h2
  ·intro u
   by_cases e:u=t
   ·subst e;rw[hs.2.2.1,hs.2.2.2];exact hjl
   ·rw[at_junk L 7 t _ _ _ _ 7 u (by omega),at_sp L 7 t _ _ _ _ 7 u (by omega)];exact ol.j7 u
end Qh
end
section
namespace Qh
open Go Go.RowKit Qs
variable {τ : Ty}{K:Nat→Bool}{w w':World}{L L':Lay}{m m':M}{N:Int}
theorem modify_get{α : Type}{l:List α}{t:Nat}{a : α}(f : α→α)(h:l[t]?=some a):l.modify t f=l.set t (f a):=by
 apply List.ext_getElem?;intro i;rw[List.getElem?_modify,List.getElem?_set];obtain ⟨hlt,hv⟩:=List.getElem?_eq_some_iff.1 h
 by_cases e:t=i
 ·subst e;rw[if_pos rfl];simp[hlt,hv]
 ·simp[e]
theorem map_set_iv(l:List Int)(j:Nat)(v:Int)(r:List Value)(hj:j<l.length):(l.set j v).map iv++r=(l.map iv++r).set j (iv v):=by
 rw[List.set_append_left _ _ (by simpa using hj)];simp[List.map_set]
theorem cell_obj(τ : Ty)(L:Lay)(m:M){i:Nat}{c c':Cell}(hc:m.cells[i]?=some c)(a j:Nat)(h6:¬(a=6∧j=i))(h2:¬(a=2∧j=0)) :
  obj τ L {m with cells:=m.cells.set i c'} a j=obj τ L m a j:=by
 match a with
 |0=>simp[obj]
 |1=>simp[obj]
 |2=>have:j≠0:=fun e=>h2 ⟨rfl,e⟩;simp[obj,this]
 |3=>simp[obj]
 |4=>simp[obj]
 |5=>simp[obj]
 |6=>
  have hj':i≠j:=fun e=>h6 ⟨rfl,e.symm⟩;simp[obj,hj',List.getElem?_set]
 |7=>simp[obj]
 |8=>simp[obj]
 |n+9=>rfl
theorem foot_cell(τ : Ty)(K:Nat→Bool)(L:Lay)(m:M){i:Nat}{c c':Cell}(hc:m.cells[i]?=some c)(x:Nat)(h:Foot τ K L {m with cells:=m.cells.set i c'} x):Foot τ K L m x:=by
 obtain ⟨a,j,hK,hs,rfl⟩:=h;refine ⟨a,j,hK,?_,rfl⟩
 by_cases e6:a=6∧j=i
 ·obtain ⟨rfl,rfl⟩:=e6;simp only[obj]at hs ⊢
  cases hn:L.nil 6 j with
  |true=>rw[hn]at hs;simp at hs
  |false=>simp[hc]
 ·by_cases e2:a=2∧j=0
  ·obtain ⟨rfl,rfl⟩:=e2;simp only[obj]at hs ⊢
   split at hs
   ·rename_i h;rw[if_pos h];rfl
   ·cases hs
  ·rw[cell_obj τ L m hc a j e6 e2]at hs;exact hs
theorem ok_cell{i:Nat}{c c':Cell}(ol:OkL L m):OkL L {m with cells:=m.cells.set i c'}:=
 ⟨ol.n2,ol.n3,fun k hk=>ol.n6 k (by simpa using hk),ol.n7,by simpa using ol.sp2,ol.sp3,ol.sp7,ol.j7⟩
theorem Rep.setWord(R:Rep τ K w L m)(h6:K 6=true)(ol:OkL L m){i j:Nat}{c:Cell}(hc:m.cells[i]?=some c)(hj:j<c.words.length)(v:Int) :
  Up τ K w L m (w.setCell ⟨L.blk 6 i,j,none⟩ (.int .i64 v)) L {m with cells:=Qs.setWord m.cells i j v}:=by
 have hi:i<m.cells.length:=(List.getElem?_eq_some_iff.1 hc).1;have e:Qs.setWord m.cells i j v=m.cells.set i {c with words:=c.words.set j v}:=modify_get _ hc;rw[e];have hs:=obj6 τ (ol.n6 i hi) hc
 refine ⟨R.upd h6 hs (by rw[obj6 τ (ol.n6 i hi) (c:={c with words:=c.words.set j v}) (by simp[hi])];simp only;rw[map_set_iv _ _ _ _ hj];rfl) (fun b k hb=>?_),ok_cell (c:=c) ol,Ext.refl L,?_,fun x hx=>.inl (foot_cell τ K L m hc x hx)⟩
 ·by_cases e2:b=2∧k=0
  ·obtain ⟨rfl,rfl⟩:=e2;rw[obj2 τ _ ol.n2,obj2 τ _ ol.n2]
   have:flat (cellVals L) 0 (m.cells.set i {c with words:=c.words.set j v})=flat (cellVals L) 0 m.cells:=by
    refine flat_congr _ _ 0 (by simp) fun q x y h1 h2=>?_;rw[List.getElem?_set]at h1
    by_cases e:i=q
    ·subst e;rw[hc]at h2;simp[hi]at h1 h2;subst h1;subst h2;simp[cellVals]
    ·rw[if_neg e,h2]at h1;cases h1;rfl
   simp only[this]
  ·exact cell_obj τ L m hc b k hb e2
 ·exact (Mod.refl _ _).setCell (fun _=>⟨6,i,h6,by rw[hs];rfl,rfl⟩) _
theorem Rep.setHere(R:Rep τ K w L m)(h2:K 2=true)(ol:OkL L m){i:Nat}{c:Cell}(hc:m.cells[i]?=some c)(b:Bool) :
  Up τ K w L m (w.setCell ⟨L.blk 2 0,i*3+2,none⟩ (.bool b)) L {m with cells:=m.cells.modify i fun y=>{y with here:=b}}:=by
 have hi:i<m.cells.length:=(List.getElem?_eq_some_iff.1 hc).1;rw[modify_get _ hc];have hs:=obj2 τ m ol.n2
 refine ⟨R.upd h2 hs (by
   rw[obj2 τ _ ol.n2];simp only
   rw[flat_set (cellVals L) 3 (fun _ _=>rfl) (j:=2) (by omega) (.bool b) m.cells 0 i c {c with here:=b} hc (by simp[cellVals]) (L.junk 2 0)]) (fun a k hb=>?_),ok_cell (c:=c) ol,Ext.refl L,?_,fun x hx=>.inl (foot_cell τ K L m hc x hx)⟩
 ·by_cases e6:a=6∧k=i
  ·obtain ⟨rfl,rfl⟩:=e6;rw[obj6 τ (ol.n6 k hi) (c:={c with here:=b}) (by simp[hi]),obj6 τ (ol.n6 k hi) hc]
  ·exact cell_obj τ L m hc a k e6 hb
 ·exact (Mod.refl _ _).setCell (fun _=>⟨2,0,h2,by rw[hs];rfl,rfl⟩) _
theorem flat_one:∀(l:List Wt) (s:Nat),∀u∈flat wtVals s l,u.oneCell'=true
 |[],_,u,h=>by simp[flat]at h
 |x :: l,s,u,h=>by
  simp only[flat,List.mem_append]at h
  rcases h with h|h
  ·simp[wtVals]at h;rcases h with rfl|rfl|rfl|rfl <;> rfl
  ·exact flat_one l (s+1) u h
theorem flat_wt_start:∀(l:List Wt) (s s':Nat),flat wtVals s l=flat wtVals s' l
 |[],_,_=>rfl
 |x :: l,s,s'=>by simp only[flat];rw[flat_wt_start l (s+1) (s'+1)];rfl
theorem Rep.tail_at(R:Rep τ K w L m)(h7:K 7=true){t:Nat}{x:Wt}{r:List Wt}(hn:L.nil 7 t=false)(hl:m.waits[t]?=some (x :: r))(o:Obj) :
  ∀j u,(flat wtVals 0 r)[j]?=some u→(w.alloc o).cell? ((⟨L.blk 7 t,4,none⟩:Addr).add j)=some u:=by
 intro j u hj;have ho:=obj7 τ hn hl;have hlt:L.blk 7 t<w.heap.size:=R.lt ⟨7,t,h7,by rw[ho];rfl,rfl⟩
 have hadd:(⟨L.blk 7 t,4,none⟩:Addr).add j=⟨L.blk 7 t,4+j,none⟩:=by unfold Addr.add;split <;> simp_all
 rw[hadd,World.cell?_alloc_lt _ _ _ hlt,R.cell h7 ho];have hjl:=(List.getElem?_eq_some_iff.1 hj).1;rw[flat_wt_start r 0 1]at hj hjl;simp only[flat,wtVals,List.cons_append,List.nil_append,show 4+j=j+4 from by omega,List.getElem?_cons_succ];rw[List.getElem?_append_left (by exact hjl)];exact hj
end Qh
end
section
namespace Qh
open Go Go.RowKit Qs
variable {m:M}{N:Int}
theorem setWord_get(l:List Cell)(i j:Nat)(v:Int)(k:Nat):(Qs.setWord l i j v)[k]?=(l[k]?).map fun c=>if i=k then {c with words:=c.words.set j v}else c:=by
 unfold Qs.setWord;rw[List.getElem?_modify]
 cases l[k]? with
 |none=>simp
 |some c=>by_cases e:i=k <;> simp[e]
theorem setWord_length(l:List Cell)(i j:Nat)(v:Int):(Qs.setWord l i j v).length=l.length:=by simp[Qs.setWord]
theorem drain1_length(l:List Cell)(x:Wt):(drain1 l x).1.length=l.length:=by
 unfold drain1
 split
 ·exact setWord_length _ _ _ _
 ·rfl
theorem drain1_get(l:List Cell)(x:Wt)(k:Nat)(c:Cell)(h:(drain1 l x).1[k]?=some c):∃c0,l[k]?=some c0∧c.times=c0.times∧c.here=c0.here∧(c.words=c0.words∨c.words=c0.words.set x.w.toNat x.v):=by
 unfold drain1 at h
 split at h
 ·simp only[setWord_get]at h
  cases h':l[k]? with
  |none=>rw[h']at h;simp at h
  |some c0=>
   rw[h']at h;simp only[Option.map_some,Option.some.injEq]at h;subst h;refine ⟨c0,rfl,?_⟩
   by_cases e:x.c.toNat=k <;> simp[e]
 ·exact ⟨c,h,rfl,rfl,.inl rfl⟩
theorem OkM.drain1(om:OkM N m){x:Wt}(hv:isWord x.v=true):OkM N {m with cells:=(drain1 m.cells x).1}:=by
 refine ⟨by simpa[drain1_length]using om.cells1,by simpa[drain1_length]using om.cells,?_,?_,om.waits,om.wlen,?_,om.N0⟩
 ·intro k c hc;obtain ⟨c0,h0,_,_,hw⟩:=drain1_get _ _ _ _ hc;obtain ⟨h1,h2⟩:=om.words k c0 h0
  rcases hw with hw|hw
  ·rw[hw];exact ⟨h1,h2⟩
  ·rw[hw];refine ⟨by simpa using h1,fun v hvm=>?_⟩
   rcases List.mem_or_eq_of_mem_set hvm with h|h
   ·exact h2 v h
   ·rw[h];exact hv
 ·intro k c hc;obtain ⟨c0,h0,ht,_,_⟩:=drain1_get _ _ _ _ hc;rw[ht];exact om.times k c0 h0
 ·intro t l hl x' hx';have:=om.wval t l hl x' hx'
  simpa[drain1_length]using this
theorem drainAll_cons(l:List Cell)(x:Wt)(a:List Wt):drainAll l (x :: a)=((drainAll (drain1 l x).1 a).1,(drainAll (drain1 l x).1 a).2+(drain1 l x).2.toNat):=by
 simp only[drainAll,Prod.mk.injEq,true_and];cases (drain1 l x).2 <;> rfl
theorem drainAll_snoc(l:List Cell)(a:List Wt)(x:Wt):drainAll l (a++[x])=((drain1 (drainAll l a).1 x).1,(drainAll l a).2+(drain1 (drainAll l a).1 x).2.toNat):=by
 induction a generalizing l with
 |nil=>rw[List.nil_append,drainAll_cons];simp[drainAll]
 |cons y a ih=>
  rw[List.cons_append,drainAll_cons,ih,drainAll_cons];simp only[Prod.mk.injEq,true_and];omega
theorem drainAll_ok(a:List Wt):∀ {m:M},OkM N m→(∀x∈a,isWord x.v=true)→OkM N {m with cells:=(drainAll m.cells a).1}:=by
 induction a with
 |nil=>intro m om _;exact om
 |cons y a ih=>
  intro m om h;exact ih (om.drain1 (h y (by simp))) (fun x hx=>h x (by simp[hx]))
theorem drainAll_length(a:List Wt):∀l,(drainAll l a).1.length=l.length:=by
 induction a with
 |nil=>intro l;rfl
 |cons y a ih=>intro l;simp only[drainAll];rw[ih,drain1_length]
theorem drainAll_le(a:List Wt):∀l,(drainAll l a).2≤a.length:=by
 induction a with
 |nil=>intro l;exact Nat.le_refl _
 |cons y a ih=>
  intro l;simp only[drainAll,List.length_cons];have:=ih (drain1 l y).1
  split <;> omega
theorem drain1_bad(l:List Cell)(x:Wt):(drain1 l x).2 = !hereIn l x.c x.g:=by
 unfold drain1;cases h:hereIn l x.c x.g <;> simp
theorem set_back{α : Type}{l:List α}{t:Nat}{a : α}(h:l[t]?=some a):l.set t a=l:=by
 apply List.ext_getElem?;intro i;rw[List.getElem?_set];obtain ⟨hlt,hv⟩:=List.getElem?_eq_some_iff.1 h
 by_cases e:t=i
 ·subst e;simp[hlt,hv]
 ·simp[e]
end Qh
end
section
namespace Qh
open Go Go.RowKit Qs
def opStr:Nat→ByteArray
 |0=>⟨#[99,111,110,115,116]⟩
 |1=>⟨#[109,111,118,101]⟩
 |2=>⟨#[97,100,100]⟩
 |3=>⟨#[115,117,98]⟩
 |4=>⟨#[97,110,100]⟩
 |5=>⟨#[120,111,114]⟩
 |6=>⟨#[108,111,97,100]⟩
 |7=>⟨#[115,116,111,114,101]⟩
 |8=>⟨#[115,119,97,112]⟩
 |9=>⟨#[99,97,115]⟩
 |10=>⟨#[97,108,108,111,99]⟩
 |11=>⟨#[102,114,101,101]⟩
 |12=>⟨#[102,101,110,99,101]⟩
 |13=>⟨#[102,111,114,99,101]⟩
 |14=>⟨#[122,101,114,111]⟩
 |15=>⟨#[115,97,109,101]⟩
 |16=>⟨#[103,111,116,111]⟩
 |17=>⟨#[108,97,98,101,108]⟩
 |18=>⟨#[109,97,114,107]⟩
 |19=>⟨#[110,101,101,100]⟩
 |_=>⟨#[115,116,111,112]⟩
theorem bytes_list(l:List UInt8):(⟨l.toArray⟩:ByteArray).toList=l:=by rw[Lib.toList_data]
theorem op_cases(n:Nat):n=0∨n=1∨n=2∨n=3∨n=4∨n=5∨n=6∨n=7∨n=8∨n=9∨n=10∨n=11∨n=12∨n=13∨n=14∨n=15∨n=16∨n=17∨n=18∨n=19∨20≤n:=by omega
theorem opStr_big{n:Nat}(h:20≤n):opStr n=⟨#[115,116,111,112]⟩:=by
 unfold opStr
 split <;> first|omega|rfl
theorem opStr_label(n:Nat):(opStr n).toList=[108,97,98,101,108]↔n=17:=by
 rw[Lib.toList_data]
 rcases op_cases n with rfl|rfl|rfl|rfl|rfl|rfl|rfl|rfl|rfl|rfl|rfl|rfl|rfl|rfl|rfl|rfl|rfl|rfl|rfl|rfl|h
 all_goals first|(rw[opStr_big h];constructor <;> intro e <;> first|(simp at e;done)|omega)|decide
theorem opStr_stop{n:Nat}(h:n≤20):(opStr n).toList=[115,116,111,112]↔n=20:=by
 rw[Lib.toList_data]
 rcases op_cases n with rfl|rfl|rfl|rfl|rfl|rfl|rfl|rfl|rfl|rfl|rfl|rfl|rfl|rfl|rfl|rfl|rfl|rfl|rfl|rfl|h'
 all_goals first|(obtain rfl:n=20:=by omega);decide|decide
def sv(l:List UInt8):Value:=.string ⟨l.toArray⟩
def instrVals(x:Instr):List Value:=[.string (opStr x.op),iv x.A,iv x.B,iv x.C,sv x.to]
def allK:Nat→Bool:=fun _=>true
def isReg(n:Int)(k:Int):Prop:=0≤n∧n<k
def insOk(x:Instr):Prop:=
 match x.op with
 |0=>isReg x.A 8∧isWord x.B=true
 |1=>isReg x.A 8∧isReg x.B 8
 |2=>isReg x.A 8∧isReg x.B 8∧isReg x.C 8
 |3=>isReg x.A 8∧isReg x.B 8∧isReg x.C 8
 |4=>isReg x.A 8∧isReg x.B 8∧isReg x.C 8
 |5=>isReg x.A 8∧isReg x.B 8∧isReg x.C 8
 |6=>isReg x.A 8∧isReg x.B 8∧isReg x.C 4
 |7=>isReg x.A 8∧isReg x.B 8∧isReg x.C 4
 |8=>isReg x.A 8∧isReg x.B 8∧isReg x.C 4
 |9=>isReg x.A 8∧isReg x.B 7∧isReg x.C 4
 |10=>isReg x.A 8
 |11=>isReg x.A 8
 |12=>True
 |13=>True
 |14=>isReg x.A 8
 |15=>isReg x.A 8∧isReg x.B 8
 |16=>True
 |17=>True
 |18=>isReg x.A 8
 |19=>isReg x.A 8
 |20=>True
 |_=>False
theorem insOk_le{x:Instr}(h:insOk x):x.op≤20:=by
 unfold insOk at h
 split at h <;> first|omega|cases h
structure CodeOk(l:List Instr):Prop where
 len:l.length≤2000
 ins:∀x∈l,insOk x
 lab:∀x∈l,(x.op=14∨x.op=15∨x.op=16)→(labelAt x.to l 0).isSome=true
structure OkT(N:Int)(m:M):Prop where
 len:m.waits.length=m.T.length
 t1:1≤m.T.length
 regs:∀(t:Nat) h,m.T[t]?=some h→h.regs.length=8∧∀v∈h.regs,isWord v=true
 code:∀(t:Nat) h,m.T[t]?=some h→h.pc≤h.code.length∧CodeOk h.code
 marks:m.marks.length≤500
 f0:0≤m.faults∧m.faults≤N
structure OkLT(L:Lay)(m:M):Prop where
 n4:L.nil 4 0=false
 n8:∀t,t<m.T.length→L.nil 8 t=false
 n5:L.nil 5 0=true→m.marks=[]
 sp4:m.T.length+L.sp 4 0≤maxLen
 sp8:∀t,t<m.T.length→L.sp 8 t≤1000000000
 sp5:L.nil 5 0=false→m.marks.length+L.sp 5 0≤maxLen
 j5:(L.junk 5 0).length=L.sp 5 0*2
structure CodeAt(w:World)(v:Value)(l:List Instr):Prop where
 at_:∃a c,v=.slice a l.length c∧c≤maxLen∧∀(i:Nat) x,l[i]?=some x→∃b off,a=some ⟨b,off,none⟩∧b<w.heap.size∧∀j y,(instrVals x)[j]?=some y→w.cell? ⟨b,off+i*5+j,none⟩=some y
def Codes(τ : Ty)(w:World)(L:Lay)(m:M):Prop:=
 ∀(t:Nat) h,m.T[t]?=some h→CodeAt w (L.code t) h.code∧(h.code≠[]→∀b,(L.code t).ownBlock=some b→¬Foot τ allK L m b∧b<w.heap.size)
structure Mach(τ : Ty)(w:World)(L:Lay)(m:M)(N:Int):Prop where
 rep:Rep τ allK w L m
 om:OkM N m
 ol:OkL L m
 ot:OkT N m
 olt:OkLT L m
 codes:Codes τ w L m
variable {τ : Ty}{K:Nat→Bool}{w w':World}{L L':Lay}{m m':M}{N:Int}
theorem CodeAt.frame{F:Nat→Prop}{v:Value}{l:List Instr}(h:CodeAt w v l)(hM:Mod F w w')(hF:∀b,v.ownBlock=some b→¬F b):CodeAt w' v l:=by
 obtain ⟨a,c,rfl,hc,hx⟩:=h.at_;refine ⟨a,c,rfl,hc,fun i x hi=>?_⟩;obtain ⟨b,off,rfl,hlt,hcell⟩:=hx i x hi;exact ⟨b,off,rfl,Nat.lt_of_lt_of_le hlt hM.size,fun j y hj=>hM.cell (hcell j y hj) (hF b rfl)⟩
theorem CodeAt.own{v:Value}{l:List Instr}(h:CodeAt w v l)(hn:l≠[]):∀g,v.ownBlock=some g→g<w.heap.size:=fun g hg=>by
 obtain ⟨a,c,rfl,hc,hx⟩:=h.at_
 cases l with
 |nil=>exact absurd rfl hn
 |cons x l=>
  obtain ⟨b,off,rfl,hlt,hcell⟩:=hx 0 x rfl
  have:b=g:=by simpa[Value.ownBlock]using hg
  exact this ▸ hlt
theorem CodeAt.frameN{F:Nat→Prop}{v:Value}{l:List Instr}(h:CodeAt w v l)(hM:Mod F w w')(hF:l≠[]→∀b,v.ownBlock=some b→¬F b):CodeAt w' v l:=by
 by_cases hn:l=[]
 ·subst hn;obtain ⟨a,c,rfl,hc,hx⟩:=h.at_;exact ⟨a,c,rfl,hc,fun i x hi=>by simp at hi⟩
 ·exact h.frame hM (hF hn)
theorem obj0(τ : Ty)(L:Lay)(m:M):obj τ L m 0 0=some ([.pointer (some ⟨L.blk 1 0,0,none⟩),L.row 4 0 m.T.length,L.row 5 0 m.marks.length,iv m.faults],τ.mach):=rfl
theorem obj4(τ : Ty){L:Lay}(m:M)(h:L.nil 4 0=false):obj τ L m 4 0=some (flat (thrVals L) 0 m.T++L.junk 4 0,τ.thr):=by simp[obj,h]
theorem obj5(τ : Ty){L:Lay}(m:M)(h:L.nil 5 0=false):obj τ L m 5 0=some (flat markVals 0 m.marks++L.junk 5 0,τ.mark):=by simp[obj,h]
theorem obj8(τ : Ty){L:Lay}{m:M}{i:Nat}{h:Thr}(hn:L.nil 8 i=false)(hc:m.T[i]?=some h):obj τ L m 8 i=some (h.regs.map iv++L.junk 8 i,τ.int):=by simp[obj,hn,hc]
theorem Mach.top(M:Mach τ w L m N):w.cell? ⟨L.blk 0 0,0,none⟩=some (.pointer (some ⟨L.blk 1 0,0,none⟩))∧
  w.cell? ⟨L.blk 0 0,1,none⟩=some (.slice (some ⟨L.blk 4 0,0,none⟩) m.T.length (m.T.length+L.sp 4 0))∧
  w.cell? ⟨L.blk 0 0,2,none⟩=some (L.row 5 0 m.marks.length)∧w.cell? ⟨L.blk 0 0,3,none⟩=some (.int .i64 m.faults)∧(∀j,w.frozen? ⟨L.blk 0 0,j,none⟩=false)∧L.blk 0 0<w.heap.size:=by
 have hc:=fun j=>M.rep.cell rfl (obj0 τ L m) j;refine ⟨?_,?_,?_,?_,fun j=>M.rep.free rfl (obj0 τ L m) j,M.rep.lt ⟨0,0,rfl,rfl,rfl⟩⟩
 ·rw[hc];rfl
 ·rw[hc,←row_some M.olt.n4];rfl
 ·rw[hc];rfl
 ·rw[hc];rfl
theorem Mach.thr_at(M:Mach τ w L m N){t:Nat}{h:Thr}(ht:m.T[t]?=some h) :
  w.cell? ⟨L.blk 4 0,t*3,none⟩=some (L.code t)∧w.cell? ⟨L.blk 4 0,t*3+1,none⟩=some (.slice (some ⟨L.blk 8 t,0,none⟩) 8 (8+L.sp 8 t))∧w.cell? ⟨L.blk 4 0,t*3+2,none⟩=some (.int .i64 (h.pc:Nat))∧
  (∀j,w.frozen? ⟨L.blk 4 0,j,none⟩=false)∧L.blk 4 0<w.heap.size:=by
 have hlt:t<m.T.length:=(List.getElem?_eq_some_iff.1 ht).1;have ho:=obj4 τ m M.olt.n4;have hg:=fun j (hj:j<3)=>flat_get (thrVals L) 3 (fun _ _=>rfl) hj m.T 0 t h ht (L.junk 4 0);refine ⟨?_,?_,?_,fun j=>M.rep.free rfl ho j,M.rep.lt ⟨4,0,rfl,by rw[ho];rfl,rfl⟩⟩
 ·rw[M.rep.cell rfl ho];have:=hg 0 (by omega);rw[Nat.zero_add]at this;exact this
 ·rw[M.rep.cell rfl ho,hg 1 (by omega)];have h8:=(M.ot.regs t h ht).1;simp[thrVals,h8,row_some (M.olt.n8 t hlt)]
 ·rw[M.rep.cell rfl ho,hg 2 (by omega)];rfl
theorem Mach.reg_at(M:Mach τ w L m N){t:Nat}{h:Thr}(ht:m.T[t]?=some h){a:Nat}(ha:a<8) :
  w.cell? ⟨L.blk 8 t,a,none⟩=some (.int .i64 (h.regs.getD a 0))∧w.frozen? ⟨L.blk 8 t,a,none⟩=false∧L.blk 8 t<w.heap.size:=by
 have hlt:t<m.T.length:=(List.getElem?_eq_some_iff.1 ht).1;have ho:=obj8 τ (M.olt.n8 t hlt) ht;have h8:=(M.ot.regs t h ht).1;refine ⟨?_,M.rep.free rfl ho a,M.rep.lt ⟨8,t,rfl,by rw[ho];rfl,rfl⟩⟩;rw[M.rep.cell rfl ho,List.getElem?_append_left (by simpa using (by omega:a<h.regs.length))]
 simp[List.getD,(by omega:a<h.regs.length),iv]
theorem Mach.ne(M:Mach τ w L m N){a i b j:Nat}(h1:(obj τ L m a i).isSome)(h2:(obj τ L m b j).isSome)(h:¬(a=b∧i=j)):L.blk a i≠L.blk b j:=
 M.rep.ne rfl rfl h1 h2 h
structure MUp(τ : Ty)(w:World)(L:Lay)(m:M)(w':World)(L':Lay)(m':M)(N':Int):Prop where
 mach:Mach τ w' L' m' N'
 top:L'.blk 0 0=L.blk 0 0∧L'.blk 1 0=L.blk 1 0
 code:L'.code=L.code
 thr:∀(t:Nat) x',m'.T[t]?=some x'→∃x,m.T[t]?=some x∧x'.code=x.code
 mod:Mod (Foot τ allK L m) w w'
 foot:∀k,Foot τ allK L' m' k→Foot τ allK L m k∨w.heap.size≤k
theorem MUp.trans{w1 w2 w3:World}{L1 L2 L3:Lay}{m1 m2 m3:M}{N2 N3:Int}(h:MUp τ w1 L1 m1 w2 L2 m2 N2)(k:MUp τ w2 L2 m2 w3 L3 m3 N3):MUp τ w1 L1 m1 w3 L3 m3 N3:=
 ⟨k.mach,⟨k.top.1.trans h.top.1,k.top.2.trans h.top.2⟩,k.code.trans h.code,(fun t x hx=>let ⟨y,hy,e⟩:=k.thr t x hx;let ⟨z,hz,e'⟩:=h.thr t y hy;⟨z,hz,e.trans e'⟩),h.mod.trans k.mod (fun x hx hf=>(h.foot x hf).resolve_right (by omega)),
  fun x hx=>(k.foot x hx).elim (fun e=>h.foot x e) (fun e=>.inr (Nat.le_trans h.mod.size e))⟩
theorem OkM.mono(om:OkM N m){N':Int}(h:N≤N'):OkM N' m:=
 ⟨om.cells1,om.cells,om.words,fun i c hc=>⟨(om.times i c hc).1,Int.le_trans (om.times i c hc).2 h⟩,om.waits,om.wlen,fun t l hl x hx=>by
  obtain ⟨a,b,c,d,e,f,g⟩:=om.wval t l hl x hx
  exact ⟨a,b,c,d,e,f,Int.le_trans g h⟩,Int.le_trans om.N0 h⟩
theorem OkT.mono(ot:OkT N m){N':Int}(h:N≤N'):OkT N' m:=⟨ot.len,ot.t1,ot.regs,ot.code,ot.marks,⟨ot.f0.1,Int.le_trans ot.f0.2 h⟩⟩
theorem Mach.mono(M:Mach τ w L m N){N':Int}(h:N≤N'):Mach τ w L m N':=⟨M.rep,M.om.mono h,M.ol,M.ot.mono h,M.olt,M.codes⟩
theorem Mach.frame0(M:Mach τ w L m N)(h:Mod noF w w'):Mach τ w' L m N:=
 ⟨M.rep.frame0 h,M.om,M.ol,M.ot,M.olt,fun t x ht=>⟨(M.codes t x ht).1.frame h (fun _ _ e=>e),fun hn b hb=>⟨((M.codes t x ht).2 hn b hb).1,Nat.lt_of_lt_of_le ((M.codes t x ht).2 hn b hb).2 h.size⟩⟩⟩
theorem MUp.quiet(M:Mach τ w L m N)(h:Mod noF w w'):MUp τ w L m w' L m N:=⟨M.frame0 h,⟨rfl,rfl⟩,rfl,(fun t x hx=>⟨x,hx,rfl⟩),h.any,fun _ h=>.inl h⟩
theorem MUp.then0{w1 w2 w3:World}{L1 L2:Lay}{m1 m2:M}{N2:Int}(h:MUp τ w1 L1 m1 w2 L2 m2 N2)(k:Mod noF w2 w3):MUp τ w1 L1 m1 w3 L2 m2 N2:=h.trans (MUp.quiet h.mach k)
theorem codes_keep(h:Codes τ w L m)(hM:Mod (Foot τ allK L m) w w')(hc:L'.code=L.code)(hT:∀(t:Nat) x',m'.T[t]?=some x'→∃x,m.T[t]?=some x∧x'.code=x.code)
  (hf:∀k,Foot τ allK L' m' k→Foot τ allK L m k∨w.heap.size≤k):Codes τ w' L' m':=by
 intro t x' hx';obtain ⟨x,hx,e⟩:=hT t x' hx';obtain ⟨h1,h2⟩:=h t x hx;rw[hc,e];refine ⟨h1.frameN hM fun hn b hb=>(h2 hn b hb).1,fun hn b hb=>⟨fun hfo=>?_,Nat.lt_of_lt_of_le (h2 hn b hb).2 hM.size⟩⟩
 rcases hf b hfo with h|h
 ·exact (h2 hn b hb).1 h
 ·have:=(h2 hn b hb).2;omega
theorem Mach.up(M:Mach τ w L m N){N':Int}(hN:N≤N')(hU:Up τ allK w L m w' L' m')(om:OkM N' m')(hT:m'.T=m.T)(hmk:m'.marks=m.marks)(hfa:m'.faults=m.faults)(hw:m'.waits.length=m.waits.length):MUp τ w L m w' L' m' N':=by
 have hx:=hU.ext.same
 refine ⟨⟨hU.rep,om,hU.ok,⟨by rw[hw,hT];exact M.ot.len,by rw[hT];exact M.ot.t1,by rw[hT];exact M.ot.regs,by rw[hT];exact M.ot.code,by rw[hmk];exact M.ot.marks,by rw[hfa];exact ⟨M.ot.f0.1,Int.le_trans M.ot.f0.2 hN⟩⟩,?_,?_⟩,⟨(hx 0 0 (by omega) (by omega)).1,(hx 1 0 (by omega) (by omega)).1⟩,hU.ext.code,(fun t x' h=>⟨x',by rw[←hT];exact h,rfl⟩),hU.mod,hU.foot⟩
 ·refine ⟨?_,?_,?_,?_,?_,?_,?_⟩
  ·rw[(hx 4 0 (by omega) (by omega)).2.1];exact M.olt.n4
  ·intro t ht;rw[(hx 8 t (by omega) (by omega)).2.1];exact M.olt.n8 t (by rw[hT]at ht;exact ht)
  ·rw[(hx 5 0 (by omega) (by omega)).2.1,hmk];exact M.olt.n5
  ·rw[(hx 4 0 (by omega) (by omega)).2.2.1,hT];exact M.olt.sp4
  ·intro t ht;rw[(hx 8 t (by omega) (by omega)).2.2.1];exact M.olt.sp8 t (by rw[hT]at ht;exact ht)
  ·rw[(hx 5 0 (by omega) (by omega)).2.1,(hx 5 0 (by omega) (by omega)).2.2.1,hmk];exact M.olt.sp5
  ·rw[(hx 5 0 (by omega) (by omega)).2.2.2,(hx 5 0 (by omega) (by omega)).2.2.1];exact M.olt.j5
 ·exact codes_keep M.codes hU.mod hU.ext.code (fun t x' h=>⟨x',by rw[←hT];exact h,rfl⟩) hU.foot
theorem MUp.poke{w1:World}{L1:Lay}{m1:M}{N1:Int}(X:Mach τ w L m N)(h:MUp τ w L m w1 L1 m1 N1){p:Addr}(hp:w.heap.size≤p.block)(hf:¬Foot τ allK L1 m1 p.block)(v:Value):MUp τ w L m (w1.setCell p v) L1 m1 N1:=by
 have hM:Mod (fun x=>x=p.block) w1 (w1.setCell p v):=(Mod.refl (fun x=>x=p.block) w1).setCell (fun _=>rfl) v
 have hcb:∀(t:Nat) x,m1.T[t]?=some x→x.code≠[]→∀b,(L1.code t).ownBlock=some b→b<w.heap.size:=by
  intro t x hx hn b hb;obtain ⟨y,hy,e⟩:=h.thr t x hx;rw[h.code]at hb;exact ((X.codes t y hy).2 (e ▸ hn) b hb).2
 refine ⟨⟨h.mach.rep.frame hM (fun k hk e=>hf (e ▸ hk)),h.mach.om,h.mach.ol,h.mach.ot,h.mach.olt,fun t x hx=>⟨(h.mach.codes t x hx).1.frameN hM (fun hn b hb e=>?_),fun hn b hb=>⟨((h.mach.codes t x hx).2 hn b hb).1,Nat.lt_of_lt_of_le ((h.mach.codes t x hx).2 hn b hb).2 hM.size⟩⟩⟩,h.top,h.code,h.thr,h.mod.setCell (fun hlt=>absurd hlt (by omega)) v,h.foot⟩
 have:=hcb t x hx hn b hb;omega
end Qh
end
section
namespace Qh
open Go Go.RowKit Qs
variable {τ : Ty}{K:Nat→Bool}{w w':World}{L L':Lay}{m m':M}{N:Int}
theorem Mach.inplace(X:Mach τ w L m N){N':Int}(R:Rep τ allK w' L m')(hM:Mod (Foot τ allK L m) w w')(hsome:∀a j,(obj τ L m' a j).isSome→(obj τ L m a j).isSome)
  (om:OkM N' m') (ol:OkL L m') (ot:OkT N' m') (olt:OkLT L m') (hT:∀(t:Nat) x',m'.T[t]?=some x'→∃x,m.T[t]?=some x∧x'.code=x.code):MUp τ w L m w' L m' N':=by
 have hf:∀k,Foot τ allK L m' k→Foot τ allK L m k∨w.heap.size≤k:=by
  rintro k ⟨a,j,hK,hs,rfl⟩;exact .inl ⟨a,j,hK,hsome a j hs,rfl⟩
 exact ⟨⟨R,om,ol,ot,olt,codes_keep X.codes hM rfl hT hf⟩,⟨rfl,rfl⟩,rfl,hT,hM,hf⟩
theorem faults_obj(τ : Ty)(L:Lay)(m:M)(f:Int)(b k:Nat)(h:¬(b=0∧k=0)):obj τ L {m with faults:=f} b k=obj τ L m b k:=by
 match b with
 |0=>have:k≠0:=fun e=>h ⟨rfl,e⟩;simp[obj,this]
 |1=>rfl
 |2=>rfl
 |3=>rfl
 |4=>rfl
 |5=>rfl
 |6=>rfl
 |7=>rfl
 |8=>rfl
 |n+9=>rfl
theorem faults_foot(τ : Ty)(K:Nat→Bool)(L:Lay)(m:M)(f:Int)(x:Nat)(h:Foot τ K L {m with faults:=f} x):Foot τ K L m x:=by
 obtain ⟨a,j,hK,hs,rfl⟩:=h;refine ⟨a,j,hK,?_,rfl⟩
 by_cases e:a=0∧j=0
 ·obtain ⟨rfl,rfl⟩:=e;rfl
 ·rw[faults_obj τ L m f a j e]at hs;exact hs
theorem Mach.setFaults(X:Mach τ w L m N){N':Int}(f:Int)(h0:0≤f)(h1:f≤N')(hN:N≤N'):MUp τ w L m (w.setCell ⟨L.blk 0 0,3,none⟩ (.int .i64 f)) L {m with faults:=f} N':=by
 have hobj:∀b k,¬(b=0∧k=0)→obj τ L {m with faults:=f} b k=obj τ L m b k:=by
  intro b k h
  match b with
  |0=>have:k≠0:=fun e=>h ⟨rfl,e⟩;simp[obj,this]
  |1=>rfl
  |2=>rfl
  |3=>rfl
  |4=>rfl
  |5=>rfl
  |6=>rfl
  |7=>rfl
  |8=>rfl
  |n+9=>rfl
 refine X.inplace (X.rep.upd rfl (obj0 τ L m) (j:=3) (by rw[obj0];rfl) hobj) ((Mod.refl _ _).setCell (fun _=>⟨0,0,rfl,rfl,rfl⟩) _) ?_ (by have:=X.om.mono hN;exact ⟨this.cells1,this.cells,this.words,this.times,this.waits,this.wlen,this.wval,this.N0⟩) ⟨X.ol.n2,X.ol.n3,X.ol.n6,X.ol.n7,X.ol.sp2,X.ol.sp3,X.ol.sp7,X.ol.j7⟩ ⟨X.ot.len,X.ot.t1,X.ot.regs,X.ot.code,X.ot.marks,⟨h0,h1⟩⟩ ⟨X.olt.n4,X.olt.n8,X.olt.n5,X.olt.sp4,X.olt.sp8,X.olt.sp5,X.olt.j5⟩ (fun t x h=>⟨x,h,rfl⟩)
 intro a j hs
 by_cases e:a=0∧j=0
 ·obtain ⟨rfl,rfl⟩:=e;rfl
 ·rw[hobj a j e]at hs;exact hs
theorem thr_obj(τ : Ty)(L:Lay)(m:M)(t:Nat)(x':Thr)(a j:Nat)(h4:¬(a=4∧j=0))(h8:¬(a=8∧j=t)):obj τ L {m with T:=m.T.set t x'} a j=obj τ L m a j:=by
 match a with
 |0=>simp[obj]
 |1=>rfl
 |2=>rfl
 |3=>rfl
 |4=>have:j≠0:=fun e=>h4 ⟨rfl,e⟩;simp[obj,this]
 |5=>rfl
 |6=>rfl
 |7=>rfl
 |8=>have:t≠j:=fun e=>h8 ⟨rfl,e.symm⟩;simp[obj,this,List.getElem?_set]
 |n+9=>rfl
theorem thr_some(τ : Ty)(L:Lay)(m:M){t:Nat}{x x':Thr}(hx:m.T[t]?=some x)(a j:Nat)(hs:(obj τ L {m with T:=m.T.set t x'} a j).isSome):(obj τ L m a j).isSome:=by
 by_cases e4:a=4∧j=0
 ·obtain ⟨rfl,rfl⟩:=e4;simp only[obj]at hs ⊢
  split at hs
  ·rename_i h;rw[if_pos h];rfl
  ·cases hs
 ·by_cases e8:a=8∧j=t
  ·obtain ⟨rfl,rfl⟩:=e8;simp only[obj]at hs ⊢
   cases hn:L.nil 8 j with
   |true=>rw[hn]at hs;simp at hs
   |false=>simp[hx]
  ·rw[thr_obj τ L m t x' a j e4 e8]at hs;exact hs
theorem Mach.setPc(X:Mach τ w L m N){t:Nat}{x:Thr}(hx:m.T[t]?=some x)(p:Nat)(hp:p≤x.code.length):MUp τ w L m (w.setCell ⟨L.blk 4 0,t*3+2,none⟩ (.int .i64 (p:Nat))) L (m.setPc t p) N:=by
 have hlt:t<m.T.length:=(List.getElem?_eq_some_iff.1 hx).1
 have e:m.setPc t p = {m with T:=m.T.set t {x with pc:=p}}:=by unfold M.setPc;rw[modify_get _ hx]
 rw[e];have ho:=obj4 τ m X.olt.n4
 have hget:∀(u:Nat) y,(m.T.set t {x with pc:=p})[u]?=some y→∃z,m.T[u]?=some z∧y.code=z.code∧y.regs=z.regs∧(y.pc=z.pc∨(u=t∧y.pc=p)):=by
  intro u y h;rw[List.getElem?_set]at h
  by_cases eu:t=u
  ·subst eu;simp[hlt]at h;subst h;exact ⟨x,hx,rfl,rfl,.inr ⟨rfl,rfl⟩⟩
  ·rw[if_neg eu]at h;exact ⟨y,h,rfl,rfl,.inl rfl⟩
 refine X.inplace (X.rep.upd rfl ho (j:=t*3+2) (by
   rw[obj4 τ _ X.olt.n4]
   rw[flat_set (thrVals L) 3 (fun _ _=>rfl) (j:=2) (by omega) (.int .i64 (p:Nat)) m.T 0 t x {x with pc:=p} hx (by simp[thrVals,iv]) (L.junk 4 0)]) (fun b k hb=>?_)) ((Mod.refl _ _).setCell (fun _=>⟨4,0,rfl,by rw[ho];rfl,rfl⟩) _) (thr_some τ L m hx) ⟨X.om.cells1,X.om.cells,X.om.words,X.om.times,X.om.waits,X.om.wlen,X.om.wval,X.om.N0⟩ ⟨X.ol.n2,X.ol.n3,X.ol.n6,X.ol.n7,X.ol.sp2,X.ol.sp3,X.ol.sp7,X.ol.j7⟩ ⟨by simpa using X.ot.len,by simpa using X.ot.t1,?_,?_,X.ot.marks,X.ot.f0⟩ ⟨X.olt.n4,by simpa using X.olt.n8,X.olt.n5,by simpa using X.olt.sp4,by simpa using X.olt.sp8,X.olt.sp5,X.olt.j5⟩ ?_
 ·by_cases e8:b=8∧k=t
  ·obtain ⟨rfl,rfl⟩:=e8;rw[obj8 τ (X.olt.n8 k hlt) (h:={x with pc:=p}) (by simp[hlt]),obj8 τ (X.olt.n8 k hlt) hx]
  ·exact thr_obj τ L m t _ b k hb e8
 ·intro u y hy;obtain ⟨z,hz,_,hr,_⟩:=hget u y hy;rw[hr];exact X.ot.regs u z hz
 ·intro u y hy;obtain ⟨z,hz,hc,_,hpc⟩:=hget u y hy;rw[hc];refine ⟨?_,(X.ot.code u z hz).2⟩
  rcases hpc with h|⟨rfl,h⟩
  ·rw[h];exact (X.ot.code u z hz).1
  ·rw[h];rw[hx]at hz;cases hz;exact hp
 ·intro u y hy;obtain ⟨z,hz,hc,_⟩:=hget u y hy;exact ⟨z,hz,hc⟩
theorem Mach.setReg(X:Mach τ w L m N){t:Nat}{x:Thr}(hx:m.T[t]?=some x){a:Nat}(ha:a<8)(v:Int)(hv:isWord v=true):MUp τ w L m (w.setCell ⟨L.blk 8 t,a,none⟩ (.int .i64 v)) L (m.setReg t a v) N:=by
 have hlt:t<m.T.length:=(List.getElem?_eq_some_iff.1 hx).1
 have e:m.setReg t a v = {m with T:=m.T.set t {x with regs:=x.regs.set a v}}:=by unfold M.setReg;rw[modify_get _ hx];rfl
 rw[e];have h8:=(X.ot.regs t x hx).1;have ho:=obj8 τ (X.olt.n8 t hlt) hx
 have hget:∀(u:Nat) y,(m.T.set t {x with regs:=x.regs.set a v})[u]?=some y→∃z,m.T[u]?=some z∧y.code=z.code∧y.pc=z.pc∧(y.regs=z.regs∨y.regs=z.regs.set a v):=by
  intro u y h;rw[List.getElem?_set]at h
  by_cases eu:t=u
  ·subst eu;simp[hlt]at h;subst h;exact ⟨x,hx,rfl,rfl,.inr rfl⟩
  ·rw[if_neg eu]at h;exact ⟨y,h,rfl,rfl,.inl rfl⟩
 refine X.inplace (X.rep.upd rfl ho (j:=a) (by
   rw[obj8 τ (X.olt.n8 t hlt) (h:={x with regs:=x.regs.set a v}) (by simp[hlt])]
   simp only;rw[map_set_iv _ _ _ _ (by omega)];rfl) (fun b k hb=>?_)) ((Mod.refl _ _).setCell (fun _=>⟨8,t,rfl,by rw[ho];rfl,rfl⟩) _) (thr_some τ L m hx) ⟨X.om.cells1,X.om.cells,X.om.words,X.om.times,X.om.waits,X.om.wlen,X.om.wval,X.om.N0⟩ ⟨X.ol.n2,X.ol.n3,X.ol.n6,X.ol.n7,X.ol.sp2,X.ol.sp3,X.ol.sp7,X.ol.j7⟩ ⟨by simpa using X.ot.len,by simpa using X.ot.t1,?_,?_,X.ot.marks,X.ot.f0⟩ ⟨X.olt.n4,by simpa using X.olt.n8,X.olt.n5,by simpa using X.olt.sp4,by simpa using X.olt.sp8,X.olt.sp5,X.olt.j5⟩ ?_
 ·by_cases e4:b=4∧k=0
  ·obtain ⟨rfl,rfl⟩:=e4;rw[obj4 τ _ X.olt.n4,obj4 τ _ X.olt.n4]
   have:flat (thrVals L) 0 (m.T.set t {x with regs:=x.regs.set a v})=flat (thrVals L) 0 m.T:=by
    refine flat_congr _ _ 0 (by simp) fun q y z h1 h2=>?_;rw[List.getElem?_set]at h1
    by_cases e:t=q
    ·subst e;rw[hx]at h2;simp[hlt]at h1 h2;subst h1;subst h2;simp[thrVals]
    ·rw[if_neg e,h2]at h1;cases h1;rfl
   simp only[this]
  ·exact thr_obj τ L m t _ b k e4 hb
 ·intro u y hy;obtain ⟨z,hz,_,_,hr⟩:=hget u y hy;obtain ⟨g1,g2⟩:=X.ot.regs u z hz
  rcases hr with hr|hr
  ·rw[hr];exact ⟨g1,g2⟩
  ·rw[hr];refine ⟨by simpa using g1,fun q hq=>?_⟩
   rcases List.mem_or_eq_of_mem_set hq with h|h
   ·exact g2 q h
   ·rw[h];exact hv
 ·intro u y hy;obtain ⟨z,hz,hc,hpc,_⟩:=hget u y hy;rw[hc,hpc];exact X.ot.code u z hz
 ·intro u y hy;obtain ⟨z,hz,hc,_⟩:=hget u y hy;exact ⟨z,hz,hc⟩
theorem OkM.setWord(om:OkM N m)(i j:Nat){v:Int}(hv:isWord v=true):OkM N {m with cells:=Qs.setWord m.cells i j v}:=by
 refine ⟨by rw[setWord_length];exact om.cells1,by rw[setWord_length];exact om.cells,?_,?_,om.waits,om.wlen,?_,om.N0⟩
 ·intro k c hc;rw[setWord_get]at hc;obtain ⟨c0,h0,rfl⟩:=Option.map_eq_some_iff.1 hc;have h:=om.words k c0 h0
  by_cases e:i=k
  ·rw[if_pos e];refine ⟨by simpa using h.1,fun u hu=>?_⟩
   rcases List.mem_or_eq_of_mem_set hu with h1|rfl
   ·exact h.2 u h1
   ·exact hv
  ·rw[if_neg e];exact h
 ·intro k c hc;rw[setWord_get]at hc;obtain ⟨c0,h0,rfl⟩:=Option.map_eq_some_iff.1 hc;have h:=om.times k c0 h0
  by_cases e:i=k
  ·rw[if_pos e];exact h
  ·rw[if_neg e];exact h
 ·intro t l hl x hx;show _∧_∧_∧_∧x.c<((Qs.setWord m.cells i j v).length:Int)∧_;rw[setWord_length];exact om.wval t l hl x hx
theorem Mach.setWord(X:Mach τ w L m N){i j:Nat}{c:Cell}(hc:m.cells[i]?=some c)(hj:j<4)(v:Int)(hv:isWord v=true) :
  MUp τ w L m (w.setCell ⟨L.blk 6 i,j,none⟩ (.int .i64 v)) L {m with cells:=Qs.setWord m.cells i j v} N:=
 X.up (Int.le_refl N) (X.rep.setWord rfl X.ol hc (by rw[(X.om.words i c hc).1];exact hj) v) (X.om.setWord i j hv) rfl rfl rfl rfl
theorem Mach.word_at(X:Mach τ w L m N){i j:Nat}{c:Cell}(hc:m.cells[i]?=some c)(hj:j<4) :
  w.cell? ⟨L.blk 1 0,0,none⟩=some (.slice (some ⟨L.blk 2 0,0,none⟩) m.cells.length (m.cells.length+L.sp 2 0))∧
  w.cell? ⟨L.blk 2 0,i*3,none⟩=some (.slice (some ⟨L.blk 6 i,0,none⟩) 4 (4+L.sp 6 i))∧
  w.cell? ⟨L.blk 6 i,j,none⟩=some (.int .i64 (getWord m.cells i j))∧w.frozen? ⟨L.blk 6 i,j,none⟩=false∧i<m.cells.length:=by
 obtain ⟨a,b,d⟩:=X.rep.cell_at rfl X.ol hc;have hi:i<m.cells.length:=(List.getElem?_eq_some_iff.1 hc).1;have h4:=(X.om.words i c hc).1;have ho:=obj6 τ (X.ol.n6 i hi) hc;refine ⟨X.rep.cells_at rfl X.ol,?_,?_,X.rep.free rfl ho j,hi⟩
 ·rw[a,h4]
 ·rw[X.rep.cell rfl ho,List.getElem?_append_left (by simpa using (by omega:j<c.words.length))];simp[getWord,hc,List.getD,(by omega:j<c.words.length),iv]
end Qh
end
section
namespace Qh
open Go Go.RowKit Qs
variable {τ : Ty}{w w':World}{L L':Lay}{m m':M}{N:Int}
theorem setPc_T{t:Nat}{h:Thr}(hh:m.T[t]?=some h)(p:Nat):(m.setPc t p).T[t]?=some {h with pc:=p}:=by
 have hlt:t<m.T.length:=(List.getElem?_eq_some_iff.1 hh).1;unfold M.setPc;rw[modify_get _ hh];simp[hlt]
theorem Mach.pc(X:Mach τ w L m N){t:Nat}{h:Thr}(hh:m.T[t]?=some h)(hlt:h.pc<h.code.length):MUp τ w L m (w.setCell ⟨L.blk 4 0,t*3+2,none⟩ (.int .i64 ((h.pc:Int)+1))) L (m.setPc t (h.pc+1)) N:=
 X.setPc hh (h.pc+1) (by omega)
theorem Mach.pcReg(X:Mach τ w L m N){t:Nat}{h:Thr}(hh:m.T[t]?=some h)(hlt:h.pc<h.code.length){a:Nat}(ha:a<8)(v:Int)(hv:isWord v=true) :
  MUp τ w L m ((w.setCell ⟨L.blk 4 0,t*3+2,none⟩ (.int .i64 ((h.pc:Int)+1))).setCell ⟨L.blk 8 t,a,none⟩ (.int .i64 v)) L ((m.setPc t (h.pc+1)).setReg t a v) N:=
 (X.pc hh hlt).trans ((X.pc hh hlt).mach.setReg (setPc_T hh _) ha v hv)
theorem isWord_of{n:Int}(h0:0≤n)(h1:n<4294967296):isWord n=true:=by simp[isWord,W32,h0,h1]
theorem of_isWord{n:Int}(h:isWord n=true):0≤n∧n<4294967296:=by simpa[isWord,W32]using h
theorem Mach.regWord(X:Mach τ w L m N){t:Nat}{h:Thr}(hh:m.T[t]?=some h){a:Nat}(ha:a<8):isWord (h.regs.getD a 0)=true:=by
 obtain ⟨h8,hv⟩:=X.ot.regs t h hh
 have:a<h.regs.length:=by omega
 exact hv _ (by simp[List.getD,this])
theorem word_and{a b:Int}(ha:isWord a=true)(hb:isWord b=true):isWord ((a.toNat &&& b.toNat:Nat):Int)=true:=by
 have h:=of_isWord ha;have:a.toNat &&& b.toNat≤a.toNat:=Nat.and_le_left;exact isWord_of (by omega) (by omega)
theorem word_xor{a b:Int}(ha:isWord a=true)(hb:isWord b=true):isWord ((a.toNat ^^^ b.toNat:Nat):Int)=true:=by
 have h1:=of_isWord ha;have h2:=of_isWord hb;have:a.toNat ^^^ b.toNat<2 ^ 32:=Nat.xor_lt_two_pow (by omega) (by omega);exact isWord_of (by omega) (by omega)
theorem Mach.pcRegQ(X:Mach τ w L m N){t:Nat}{h:Thr}(hh:m.T[t]?=some h)(hlt:h.pc<h.code.length){a:Nat}(ha:a<8)(v:Int)(hv:isWord v=true)
  (hq:Mod noF (w.setCell ⟨L.blk 4 0,t*3+2,none⟩ (.int .i64 ((h.pc:Int)+1))) w'):MUp τ w L m (w'.setCell ⟨L.blk 8 t,a,none⟩ (.int .i64 v)) L ((m.setPc t (h.pc+1)).setReg t a v) N:=
 ((X.pc hh hlt).then0 hq).trans (((X.pc hh hlt).then0 hq).mach.setReg (setPc_T hh _) ha v hv)
theorem MUp.mono1(h:MUp τ w L m w' L' m' N):MUp τ w L m w' L' m' (N+1):=⟨h.mach.mono (by omega),h.top,h.code,h.thr,h.mod,h.foot⟩
def needM(m:M)(t p:Nat)(v:Int):M:=if v=0 then (m.setPc t p).fault else m.setPc t p
theorem labelAt_lt(to:List UInt8):∀(l:List Instr) (k i:Nat),labelAt to l k=some i→k≤i∧i<k+l.length
 |[],_,_,h=>by simp[labelAt]at h
 |x :: l,k,i,h=>by
  simp only[labelAt]at h
  split at h
  ·cases h;simp
  ·have:=labelAt_lt to l (k+1) i h;simp only[List.length_cons];omega
theorem Mach.pcPcQ(X:Mach τ w L m N){t:Nat}{h:Thr}(hh:m.T[t]?=some h)(hlt:h.pc<h.code.length)(i:Nat)(hi:i≤h.code.length)
  (hq:Mod noF (w.setCell ⟨L.blk 4 0,t*3+2,none⟩ (.int .i64 ((h.pc:Int)+1))) w'):MUp τ w L m (w'.setCell ⟨L.blk 4 0,t*3+2,none⟩ (.int .i64 (i:Int))) L ((m.setPc t (h.pc+1)).setPc t i) N:=
 ((X.pc hh hlt).then0 hq).trans (((X.pc hh hlt).then0 hq).mach.setPc (setPc_T hh _) i hi)
theorem Mach.pcFaultQ(X:Mach τ w L m N){t:Nat}{h:Thr}(hh:m.T[t]?=some h)(hlt:h.pc<h.code.length)
  (hq:Mod noF (w.setCell ⟨L.blk 4 0,t*3+2,none⟩ (.int .i64 ((h.pc:Int)+1))) w'):MUp τ w L m (w'.setCell ⟨L.blk 0 0,3,none⟩ (.int .i64 (m.faults+1))) L (m.setPc t (h.pc+1)).fault (N+1):=
 ((X.pc hh hlt).then0 hq).trans (((X.pc hh hlt).then0 hq).mach.setFaults (m.faults+1) (by have:=X.ot.f0;omega) (by have:=X.ot.f0;omega) (by omega))
theorem box_cell(w:World)(p:Addr)(v:Value)(cs:Array Value)(T:TypeId)(j:Nat):(((w.setCell p v).alloc (.cells cs T)).drew).cell? ⟨w.heap.size,j,none⟩=cs[j]?:=by
 have:=World.cell?_alloc_new (w.setCell p v) cs T j
 simpa using this
theorem box_far{w:World}{p a:Addr}{v u:Value}{o:Obj}(h:w.cell? a=some u)(hp:p.block≠a.block):(((w.setCell p v).alloc o).drew).cell? a=some u:=by
 have h3:(w.setCell p v).cell? a=some u:=by rw[World.cell?_setCell_far _ _ _ _ hp];exact h
 have h4:=World.cell?_alloc_some (w.setCell p v) a o (by rw[h3];rfl);exact h4.trans h3
theorem setReg_setReg(m:M)(t:Nat)(a u v:Int):(m.setReg t a u).setReg t a v=m.setReg t a v:=by
 unfold M.setReg
 congr 1
 apply List.ext_getElem?;intro i;simp only[List.getElem?_modify]
 cases m.T[i]? with
 |none=>simp
 |some x=>by_cases e:t=i <;> simp[e]
theorem setReg_T{t:Nat}{h:Thr}(hh:m.T[t]?=some h)(a v:Int):(m.setReg t a v).T[t]?=some {h with regs:=h.regs.set a.toNat v}:=by
 have hlt:t<m.T.length:=(List.getElem?_eq_some_iff.1 hh).1;unfold M.setReg;rw[modify_get _ hh];simp[hlt]
theorem getWord_word(om:OkM N m)(c w:Nat):isWord (getWord m.cells c w)=true:=by
 unfold getWord
 rcases h:m.cells[c]? with _|x
 ·rfl
 ·have:=(om.words c x h).2;simp only[Option.map_some,Option.getD_some,List.getD]
  rcases h2:x.words[w]? with _|v
  ·rfl
  ·exact this v (List.mem_of_getElem? h2)
theorem look_word_list(c g w:Int):∀(l:List Wt) (v:Int),(∀x∈l,isWord x.v=true)→isWord v=true→isWord (Qs.look l c g w v)=true
 |[],_,_,hv=>hv
 |x :: r,v,hl,hv=>by
  show isWord (Qs.look r c g w (if x.c=c∧x.g=g∧x.w=w then x.v else v))=true;refine look_word_list c g w r _ (fun y hy=>hl y (List.mem_cons_of_mem _ hy)) ?_
  split
  ·exact hl x (List.mem_cons_self ..)
  ·exact hv
theorem look_word(om:OkM N m)(t:Nat)(c g w:Int)(k j:Nat):isWord (Qs.look (m.waitsOf t) c g w (getWord m.cells k j))=true:=by
 refine look_word_list c g w _ _ ?_ (getWord_word om k j);intro x hx;unfold M.waitsOf List.getD at hx
 rcases h:m.waits[t]? with _|l
 ·rw[h]at hx;cases hx
 ·rw[h]at hx;exact (om.wval t l h x hx).1
def casM(m:M)(t b k j:Nat)(x y:Int):M:=(if getWord m.cells k j=x then ({m with cells:=Qs.setWord m.cells k j y}:M)else m).setReg t b (getWord m.cells k j)
end Qh
end
section
namespace Qh
open Go Go.RowKit Qs
variable {m:M}{t:Nat}{h:Thr}
theorem thr_of(hh:m.T[t]?=some h):m.thr t=h:=by simp[M.thr,List.getD,hh]
theorem thr_setPc(hh:m.T[t]?=some h)(p:Nat):(m.setPc t p).thr t = {h with pc:=p}:=thr_of (setPc_T hh p)
theorem step_eq(hh:m.T[t]?=some h){x:Instr}(hx:h.code[h.pc]?=some x)(h20:x.op≠20):m.step t=((m.setPc t (h.pc+1)).exec t x,0):=by
 unfold M.step;rw[thr_of hh,hx];simp[h20]
theorem step_stop(hh:m.T[t]?=some h){x:Instr}(hx:h.code[h.pc]?=some x)(h20:x.op=20):m.step t=(m,9):=by
 unfold M.step;rw[thr_of hh,hx];simp[h20]
theorem step_end(hh:m.T[t]?=some h)(hx:h.code[h.pc]?=none):m.step t=(m,9):=by
 unfold M.step;rw[thr_of hh,hx]
theorem jump_eq(hh:m.T[t]?=some h)(p:Nat){to:List UInt8}{i:Nat}(hi:labelAt to h.code 0=some i):(m.setPc t p).jump t to=(m.setPc t p).setPc t i:=by
 unfold M.jump;rw[thr_setPc hh p];simp[hi]
end Qh
end
section
namespace Qh
open Go Go.RowKit Qs
variable {τ : Ty}{w w':World}{L L':Lay}{m m':M}{N:Int}
theorem row_slice(ol:OkL L m){t:Nat}{l:List Wt}(hl:m.waits[t]?=some l):∃a c,L.row 7 t l.length=.slice a l.length c:=by
 unfold Lay.row
 cases h:L.nil 7 t with
 |true=>exact ⟨none,0,by rw[ol.n7 t l hl h];rfl⟩
 |false=>exact ⟨_,_,rfl⟩
def putM(m:M)(t:Nat)(x:Wt):M:={m with waits:=m.waits.modify t fun l=>l++[x]}
theorem putM_eq{t:Nat}{l:List Wt}(hl:m.waits[t]?=some l)(x:Wt):putM m t x = {m with waits:=m.waits.set t (l++[x])}:=by
 unfold putM;rw[modify_get _ hl]
theorem hereIn_ge{l:List Cell}{c g:Int}(h:hereIn l c g=true):0≤c∧c<l.length∧∃x,l[c.toNat]?=some x∧x.here=true∧g=x.times - 1:=by
 unfold hereIn cellAt at h
 by_cases hc:c<0
 ·simp[hc]at h
 ·rw[if_neg hc]at h
  cases hx:l[c.toNat]? with
  |none=>simp[hx]at h
  |some x=>
   rw[hx]at h;simp only[Bool.and_eq_true,decide_eq_true_eq]at h;have:=(List.getElem?_eq_some_iff.1 hx).1;exact ⟨by omega,by omega,x,rfl,h.1,h.2⟩
theorem refOf_ge{n c g:Int}(h:refOf n=some (c,g)):0≤g:=by
 unfold refOf at h
 split at h
 ·cases h
 ·split at h
  ·rename_i h0 hw
   have hb:0≤n∧n<4294967296:=by simpa[isWord,W32]using hw
   have e:c=(n - 1) % 64∧g=(n - 1)/64:=by
    have:=Option.some.inj h;exact ⟨(congrArg Prod.fst this).symm,(congrArg Prod.snd this).symm⟩
   rw[e.2];omega
  ·cases h
theorem names_ok_wt(om:OkM N m){n c g C v:Int}(h:m.names n=some (c,g))(hC:0≤C∧C<4)(hv:isWord v=true) :
  isWord v=true∧0≤C∧C<4∧0≤c∧c<m.cells.length∧0≤g∧g≤N:=by
 unfold M.names at h
 cases hr:refOf n with
 |none=>rw[hr]at h;cases h
 |some p=>
  obtain ⟨a,b⟩:=p;rw[hr]at h;simp only at h
  split at h
  ·rename_i hh
   cases h;obtain ⟨h0,h1,x,hx,_,hg⟩:=hereIn_ge hh;have:=(om.times _ x hx).2;exact ⟨hv,hC.1,hC.2,h0,h1,refOf_ge hr,by omega⟩
  ·cases h
theorem OkM.put(om:OkM N m){t:Nat}{l:List Wt}(hl:m.waits[t]?=some l)(h8:l.length<8){x:Wt}(hx:isWord x.v=true∧0≤x.w∧x.w<4∧0≤x.c∧x.c<m.cells.length∧0≤x.g∧x.g≤N) :
  OkM N {m with waits:=m.waits.set t (l++[x])}:=
 om.setWaits (by simp;omega) fun y hy=>by
  rcases List.mem_append.1 hy with h|h
  ·exact om.wval t l hl y h
  ·simp at h;subst h;exact hx
theorem hereIn_drain(l:List Cell)(y:Wt)(c g:Int):hereIn (drain1 l y).1 c g=hereIn l c g:=by
 by_cases hh:hereIn l y.c y.g=true
 ·have e:(drain1 l y).1=setWord l y.c.toNat y.w.toNat y.v:=by unfold drain1;rw[if_pos hh]
  rw[e];unfold hereIn cellAt
  by_cases hc:c<0
  ·simp[hc]
  ·rw[if_neg hc,if_neg hc,setWord_get]
   cases l[c.toNat]? with
   |none=>rfl
   |some x=>
    simp only[Option.map_some]
    split <;> rfl
 ·have e:(drain1 l y).1=l:=by unfold drain1;rw[if_neg hh]
  rw[e]
theorem MUp.mono(h:MUp τ w L m w' L' m' N){N':Int}(hN:N≤N'):MUp τ w L m w' L' m' N':=⟨h.mach.mono hN,h.top,h.code,h.thr,h.mod,h.foot⟩
end Qh
end
section
namespace Qs
theorem M.run_snoc(m:M):∀(l:List Int) (n:Int),m.run (l++[n])=((((m.run l).1).turn n).1,(m.run l).2+(if (((m.run l).1).turn n).2=0 then 1 else 0)):=by
 intro l
 induction l generalizing m with
 |nil=>intro n;simp[M.run];rfl
 |cons x l ih=>
  intro n;show ((((m.turn x).1).run (l++[n])).1,(((m.turn x).1).run (l++[n])).2+_)=_;rw[ih];simp only[M.run];refine Prod.ext rfl ?_;simp only;omega
theorem M.run_two(m:M):∀(l:List Int),0≤(m.run l).2∧(m.run l).2≤l.length:=by
 intro l
 induction l generalizing m with
 |nil=>simp[M.run]
 |cons x l ih=>
  have:=ih (m.turn x).1;simp only[M.run,List.length_cons]
  split <;> omega
end Qs
namespace Qh
open Go Go.RowKit Qs
structure IntsAt(w:World)(v:Value)(l:List Int):Prop where
 at_:∃a c,v=.slice a l.length c∧l.length≤maxLen∧∀(i:Nat) x,l[i]?=some x→∃b off,a=some ⟨b,off,none⟩∧b<w.heap.size∧w.cell? ⟨b,off+i,none⟩=some (.int .i64 x)
theorem IntsAt.frame{w w':World}{F:Nat→Prop}{v:Value}{l:List Int}(h:IntsAt w v l)(hM:Mod F w w')(hF:∀b,v.ownBlock=some b→¬F b):IntsAt w' v l:=by
 obtain ⟨a,c,rfl,hc,hx⟩:=h.at_;refine ⟨a,c,rfl,hc,fun i x hi=>?_⟩;obtain ⟨b,off,rfl,hlt,hcell⟩:=hx i x hi;exact ⟨b,off,rfl,Nat.lt_of_lt_of_le hlt hM.size,hM.cell hcell (hF b rfl)⟩
theorem IntsAt.frame0{w w':World}{v:Value}{l:List Int}(h:IntsAt w v l)(hM:Mod noF w w'):IntsAt w' v l:=h.frame hM fun _ _ e=>e
end Qh
end
section
namespace Qh
open Go Go.RowKit Qs
variable {τ : Ty}{K:Nat→Bool}{w w':World}{L:Lay}{m m':M}
theorem Rep.put(R:Rep τ K w L m){a i:Nat}{cs cs':List Value}{T:TypeId}(hK:K a=true)(ho:obj τ L m a i=some (cs,T))(ho':obj τ L m' a i=some (cs',T))
  (hoth:∀b k,¬(b=a∧k=i)→obj τ L m' b k=obj τ L m b k) (hM:Mod (fun x=>x=L.blk a i) w w') (hh:w'.heap[L.blk a i]?=some (.cells cs'.toArray T (0,0))):Rep τ K w' L m':=by
 have hsome:∀b k,(obj τ L m' b k).isSome→(obj τ L m b k).isSome:=by
  intro b k h
  by_cases e:b=a∧k=i
  ·obtain ⟨rfl,rfl⟩:=e;rw[ho];rfl
  ·rw[←hoth b k e];exact h
 refine ⟨fun b k cs2 T' hKb hb=>?_,fun b k b' k' h1 h2 h3 h4 h5=>R.inj b k b' k' h1 h2 (hsome _ _ h3) (hsome _ _ h4) h5⟩
 by_cases e:b=a∧k=i
 ·obtain ⟨rfl,rfl⟩:=e;rw[ho']at hb;cases hb;exact hh
 ·rw[hoth b k e]at hb;have hne:L.blk b k≠L.blk a i:=fun h=>e (R.inj b k a i hKb hK (by rw[hb];rfl) (by rw[ho];rfl) h);exact hM.heap (R.at_ b k cs2 T' hKb hb) hne
def pad(k:Nat)(l:List Int):List Int:=l++List.replicate (k - l.length) 0
theorem pad_len{k:Nat}{l:List Int}(h:l.length≤k):(pad k l).length=k:=by simp[pad];omega
theorem pad_splice{k:Nat}{l:List Int}(h:l.length≤k):splice (List.replicate k (Value.int .i64 0)) 0 (l.map (Value.int .i64))=(pad k l).map (Value.int .i64):=by
 simp[splice,pad]
theorem step_copy_mod{P:Program}{ops:Array Oper}{o:Oper}{a:Act}{w:World}{K:Act→World→Prop}{Q:Exit→Act→World→Prop}{E:Prop}(hgd:o.guard=none)(d s:Operand)(dT sT:TypeId)
  (ho:o.op=.call {callee:=.builtin .copy,args:=#[d,s],argTypes:=#[dT,sT]}) (elem:TypeId) (hu:P.underlying dT=some (.slice elem)) (hsz:(P.info? elem).map (·.size)=some 1)
  (sp:Option Addr) (dLen dCap sLen sCap:Nat) (g off:Nat) (hd:a.eval d=.slice (some ⟨g,off,none⟩) dLen dCap) (hs:a.eval s=.slice sp sLen sCap)
  (cur:List Value) (t:TypeId) (hg:w.heap[g]?=some (.cells cur.toArray t (0,0))) (cs:List Value) (hn:cs.length=Nat.min sLen dLen)
  (hsrc:0<cs.length→∃ad,sp=some ad∧∀j v,cs[j]?=some v→w.cell? (ad.add j)=some v)
  (hfit:off+cs.length≤cur.length) (h1:∀v∈cs,v.oneCell'=true)
  (h:∀w',w'.heap[g]?=some (.cells (splice cur off cs).toArray t (0,0))→Mod (fun x=>x=g) w w'→K (a.put o.dst (goInt cs.length)) w') :
  if Region.wanted o (yielded ops a.tmps)=true then Oper.wp P o a w K Q else E:=by
 have hw:Region.wanted o (yielded ops a.tmps)=true:=by simp[Region.wanted,hgd]
 rw[if_pos hw]
 by_cases h0:cs.length=0
 ·obtain rfl:cs=[]:=List.eq_nil_of_length_eq_zero h0;have hrun:=run_copy_none (P:=P) w dT sT o.type elem (some ⟨g,off,none⟩) sp dLen dCap sLen sCap hu hsz (by simpa using hn.symm);unfold Oper.wp;simp[execOp,ho,resolve,invoke,builtin,hd,hs,hrun,Result.andThen]
  exact h w (show _=_ by simpa[splice]using hg) (Mod.refl _ _)
 ·obtain ⟨ad,rfl,hsrc2⟩:=hsrc (by omega);have hrun:=run_copy_row (P:=P) w dT sT o.type elem g off dLen dCap ad sLen sCap cur.toArray t cs hu hsz hg hn hsrc2 (by simpa using hfit) h1;unfold Oper.wp;simp[execOp,ho,resolve,invoke,builtin,hd,hs,hrun,Result.andThen]
  refine h _ (show _=_ by simpa[splice]using setRow_heap w g _ _ t _ hg) ⟨rfl,rfl,rfl,by simp[World.setRow],fun k hk hf=>setRow_other w g k _ hf⟩
theorem IntsAt.src{u:Value}{l:List Int}(h:IntsAt w u l):∃sp c,u=.slice sp l.length c∧(0<(l.map (Value.int .i64)).length→∃ad,sp=some ad∧∀j v,(l.map (Value.int .i64))[j]?=some v→w.cell? (ad.add j)=some v):=by
 obtain ⟨a,c,e,_,hx⟩:=h.at_;refine ⟨a,c,e,fun hl=>?_⟩
 have hl':0<l.length:=by simpa using hl
 obtain ⟨b,off,rfl,_,_⟩:=hx 0 l[0] (List.getElem?_eq_getElem hl');refine ⟨_,rfl,fun j v hv=>?_⟩;rw[List.getElem?_map]at hv;obtain ⟨x,hx1,rfl⟩:=Option.map_eq_some_iff.1 hv;obtain ⟨b',off',e',_,hc⟩:=hx j x hx1;cases e'
 have hadd:(⟨b,off,none⟩:Addr).add j=⟨b,off+j,none⟩:=by unfold Addr.add;split <;> simp_all
 rw[hadd];exact hc
end Qh
end
section
namespace Qh
open Go Go.RowKit Qs
def lowB(c:UInt8):Bool:=decide (97≤c.toNat)&&decide (c.toNat≤122)
def chB(c:UInt8):Bool:=lowB c||(decide (48≤c.toNat)&&decide (c.toNat≤57))||decide (c.toNat=46)
def nameB:List UInt8→Bool
 |[]=>false
 |c :: l=>decide (l.length<12)&&lowB c&&(c :: l).all chB
theorem nameB_len{l:List UInt8}(h:12<l.length):nameB l=false:=by
 cases l with
 |nil=>rfl
 |cons c l=>simp only[nameB];rw[decide_eq_false (by simp at h;omega)];rfl
theorem nameB_first{l:List UInt8}{c:UInt8}(h0:l[0]?=some c)(h:lowB c=false):nameB l=false:=by
 cases l with
 |nil=>rfl
 |cons d l=>simp at h0;subst h0;simp[nameB,h]
theorem nameB_ch{l:List UInt8}{c:UInt8}{i:Nat}(h0:l[i]?=some c)(h:chB c=false):nameB l=false:=by
 cases l with
 |nil=>rfl
 |cons d l=>
  have:(d :: l).all chB=false:=List.all_eq_false.2 ⟨c,List.mem_of_getElem? h0,by rw[h];decide⟩;simp only[nameB,this,Bool.and_false]
theorem nameB_yes{l:List UInt8}{c:UInt8}(h0:l[0]?=some c)(h:lowB c=true)(hl:l.length≤12)(ha:∀(i:Nat) d,l[i]?=some d→chB d=true):nameB l=true:=by
 cases l with
 |nil=>simp at h0
 |cons d l=>
  simp at h0;subst h0
  have:(d :: l).all chB=true:=List.all_eq_true.2 fun x hx=>by
   obtain ⟨i,hi⟩:=List.getElem?_of_mem hx;exact ha i x hi
  simp only[nameB,this,h,Bool.and_true];simp at hl;exact decide_eq_true (by omega)
theorem bytes_get(s:ByteArray)(i:Nat)(h:i<s.size):s.data.toList[i]?=some s[i]:=by
 rw[List.getElem?_eq_getElem (by simpa using h)];rfl
theorem bytes_len(s:ByteArray):s.data.toList.length=s.size:=by simp
theorem chB_true{c:UInt8}(h:(97≤(c.toNat:Int)∧(c.toNat:Int)≤122)∨(48≤(c.toNat:Int)∧(c.toNat:Int)≤57)∨(c.toNat:Int)=46):chB c=true:=by
 unfold chB lowB;simp only[Bool.or_eq_true,Bool.and_eq_true,decide_eq_true_eq];omega
theorem chB_false{c:UInt8}(h:¬((97≤(c.toNat:Int)∧(c.toNat:Int)≤122)∨(48≤(c.toNat:Int)∧(c.toNat:Int)≤57)∨(c.toNat:Int)=46)):chB c=false:=by
 rw[←Bool.not_eq_true];unfold chB lowB;simp only[Bool.or_eq_true,Bool.and_eq_true,decide_eq_true_eq];omega
theorem ch_step{s:ByteArray}{k:Nat}(hlt:k<s.size)(Hall:∀(j:Nat) d,j<k→s.data.toList[j]?=some d→chB d=true)(h:chB s[k]=true):∀(j:Nat) d,j<k+1→s.data.toList[j]?=some d→chB d=true:=by
 intro j d hj hd
 by_cases e:j=k
 ·subst e;rw[bytes_get s j hlt]at hd;cases hd;exact h
 ·exact Hall j d (by omega) hd
end Qh
end
section
namespace Qh
open Go Go.RowKit Qs
variable {τ : Ty}{K:Nat→Bool}{w w':World}{L L':Lay}{m m':M}
theorem words_foot{i b k:Nat}{t:Int}(ol:OkL L m)(h:Foot τ K (L.words i b) {m with cells:=m.cells.set i (zeroCell t)} k):Foot τ K L m k∨k=b:=by
 obtain ⟨a,j,hK,hs,rfl⟩:=h
 by_cases h6:a=6∧j=i
 ·right;obtain ⟨rfl,rfl⟩:=h6;simp[Lay.words]
 ·left;rw[words_blk L i b a j h6]
  by_cases h2:a=2∧j=0
  ·obtain ⟨rfl,rfl⟩:=h2;exact ⟨2,0,hK,by rw[obj2 τ m ol.n2];rfl,rfl⟩
  ·rw[words_obj τ L m i b t a j h6 h2]at hs;exact ⟨a,j,hK,hs,rfl⟩
theorem words_ok{i b:Nat}{t:Int}(ol:OkL L m):OkL (L.words i b) {m with cells:=m.cells.set i (zeroCell t)}:=by
 refine ⟨?_,?_,?_,?_,?_,?_,?_,?_⟩
 ·rw[words_nil L i b 2 0 (by omega)];exact ol.n2
 ·rw[words_nil L i b 3 0 (by omega)];exact ol.n3
 ·intro j hj
  by_cases e:j=i
  ·subst e;simp[Lay.words]
  ·rw[words_nil L i b 6 j (by omega)];exact ol.n6 j (by simpa using hj)
 ·intro u l hl h;rw[words_nil L i b 7 u (by omega)]at h;exact ol.n7 u l hl h
 ·have:(L.words i b).sp 2 0=L.sp 2 0:=by simp[Lay.words]
  rw[this];simpa using ol.sp2
 ·have:(L.words i b).sp 3 0=L.sp 3 0:=by simp[Lay.words]
  rw[this];exact ol.sp3
 ·intro u l hl h;rw[words_nil L i b 7 u (by omega)]at h
  have:(L.words i b).sp 7 u=L.sp 7 u:=by simp[Lay.words]
  rw[this];exact ol.sp7 u l hl h
 ·intro u
  have h1:(L.words i b).sp 7 u=L.sp 7 u:=by simp[Lay.words]
  have h2:=words_junk L i b 7 u (by omega);rw[h1,h2];exact ol.j7 u
def cellC(init:List (List Int))(i j:Nat):Cell:=if j<i then ⟨pad 4 (init.getD j []),1,true⟩else ⟨[0,0,0,0],0,false⟩
def preM(n t:Nat)(init:List (List Int))(i:Nat):M:=⟨(List.range n).map (cellC init i),List.replicate t [],[],[],0⟩
theorem preM_zero(n t:Nat)(init:List (List Int)):preM n t init 0=newM n t:=by
 unfold preM newM
 congr 1
 apply List.ext_getElem?;intro j
 by_cases h:j<n
 ·simp[h,cellC]
 ·rw[List.getElem?_eq_none (by simpa using h),List.getElem?_eq_none (by simpa using h)]
theorem preM_get{n t i j:Nat}{init:List (List Int)}(h:j<n):(preM n t init i).cells[j]?=some (cellC init i j):=by simp[preM,h]
theorem preM_len(n t i:Nat)(init:List (List Int)):(preM n t init i).cells.length=n:=by simp[preM]
theorem preM_succ{n t i:Nat}{init:List (List Int)}(h:i<n){l:List Int}(hl:init[i]?=some l) :
  {(preM n t init i)with cells:=((preM n t init i).cells.set i (zeroCell 1)).set i ⟨pad 4 l,1,true⟩} = preM n t init (i+1):=by
 show M.mk ((((List.range n).map (cellC init i)).set i (zeroCell 1)).set i ⟨pad 4 l,1,true⟩) _ _ _ _=M.mk ((List.range n).map (cellC init (i+1))) _ _ _ _
 congr 1
 apply List.ext_getElem?;intro j;simp only[List.set_set];rw[List.getElem?_set]
 by_cases hj:j<n
 ·by_cases e:i=j
  ·subst e;simp[h,cellC,List.getD,hl]
  ·rw[if_neg e];simp only[List.getElem?_map,List.getElem?_range hj,Option.map_some]
   congr 1
   unfold cellC
   by_cases h1:j<i
   ·rw[if_pos h1,if_pos (by omega)]
   ·rw[if_neg h1,if_neg (by omega)]
 ·have:¬i=j:=by omega
  rw[if_neg this,List.getElem?_eq_none (by simpa using hj),List.getElem?_eq_none (by simpa using hj)]
theorem preM_alloc{n t i:Nat}{init:List (List Int)}(h:i<n):allocAt (preM n t init i).cells 0=some (i,0):=by
 have:=allocAt_found (preM n t init i).cells 0 i ⟨[0,0,0,0],0,false⟩ (by rw[preM_get h];simp[cellC]) rfl (fun j x hj hx=>by
  rw[preM_get (by omega)]at hx;cases hx
  simp[cellC,hj])
 simpa using this
theorem pad_word{k:Nat}{l:List Int}(h:∀v∈l,isWord v=true):∀v∈pad k l,isWord v=true:=by
 intro v hv;unfold pad at hv
 rcases List.mem_append.1 hv with h1|h1
 ·exact h v h1
 ·rw[List.eq_of_mem_replicate h1];rfl
def RowsFine(k:Nat)(ll:List (List Int)):Prop:=∀l∈ll,l.length≤k∧∀v∈l,isWord v=true
theorem RowsFine.getD{k:Nat}{ll:List (List Int)}(h:RowsFine k ll)(j:Nat):(ll.getD j []).length≤k∧∀v∈ll.getD j [],isWord v=true:=by
 unfold List.getD
 rcases e:ll[j]? with _|l
 ·simp
 ·exact h l (List.mem_of_getElem? e)
theorem preM_ok{n t i:Nat}{init:List (List Int)}(h1:1≤n)(hn:n≤64)(ht:t≤6)(hi:RowsFine 4 init):OkM 1 (preM n t init i):=by
 refine ⟨by rw[preM_len];exact h1,by rw[preM_len];exact hn,?_,?_,by simpa[preM]using ht,?_,?_,by omega⟩
 ·intro j c hc
  have hj:j<n:=by have:=(List.getElem?_eq_some_iff.1 hc).1;rwa [preM_len]at this
  rw[preM_get hj]at hc;cases hc;unfold cellC
  split
  ·exact ⟨pad_len (hi.getD j).1,pad_word (hi.getD j).2⟩
  ·exact ⟨rfl,fun v hv=>by simp at hv;subst hv;rfl⟩
 ·intro j c hc
  have hj:j<n:=by have:=(List.getElem?_eq_some_iff.1 hc).1;rwa [preM_len]at this
  rw[preM_get hj]at hc;cases hc;unfold cellC
  split <;> simp
 ·intro u l hl;have:l=[]:=List.eq_of_mem_replicate (List.mem_of_getElem? hl);subst this;simp
 ·intro u l hl;have:l=[]:=List.eq_of_mem_replicate (List.mem_of_getElem? hl);subst this;simp
end Qh
end
section
namespace Qh
open Go Go.RowKit Qs
variable {τ : Ty}{K:Nat→Bool}{w w' w2:World}{L L':Lay}{m m':M}{N:Int}
theorem marks_obj(τ : Ty)(L:Lay)(m:M)(b:Nat)(nl:Bool)(s:Nat)(jk:List Value)(l':List (Int × Int))(a j:Nat)(h5:¬(a=5∧j=0))(h0:¬(a=0∧j=0)) :
  obj τ (L.at_ 5 0 b nl s jk) {m with marks:=l'} a j=obj τ L m a j:=by
 have ec:cellVals (L.at_ 5 0 b nl s jk)=cellVals L:=by funext i c;simp[cellVals,at_row]
 have et:thrVals (L.at_ 5 0 b nl s jk)=thrVals L:=by funext i c;simp[thrVals,at_row,at_code]
 have ew:waitsVals (L.at_ 5 0 b nl s jk)=waitsVals L:=by funext i c;simp[waitsVals,at_row]
 match a with
 |0=>have:j≠0:=fun e=>h0 ⟨rfl,e⟩;simp[obj,this]
 |1=>simp[obj,at_row]
 |2=>simp[obj,ec,at_nil,at_junk]
 |3=>simp[obj,ew,at_nil,at_junk]
 |4=>simp[obj,et,at_nil,at_junk]
 |5=>have:j≠0:=fun e=>h5 ⟨rfl,e⟩;simp[obj,this]
 |6=>simp[obj,at_nil,at_junk]
 |7=>simp[obj,at_nil,at_junk]
 |8=>simp[obj,at_nil,at_junk]
 |n+9=>rfl
theorem owns_mod5{w w':World}{F:Nat→Prop}{T:TypeId}{sz k:Nat}{v:Value}{xs:List Value}(h:w.ownsRow 0 T sz v k xs)(hM:Mod F w w')(hF:∀g,v.ownBlock=some g→¬F g):w'.ownsRow 0 T sz v k xs:=by
 refine ⟨h.1,?_⟩
 rcases h.2 with e|⟨g,cap,cur,rfl,h0,hg,r⟩
 ·exact .inl e
 ·exact .inr ⟨g,cap,cur,rfl,h0,hM.heap hg (hF g rfl),r⟩
theorem Mach.owns5(X:Mach τ w L m N):w.ownsRow 0 τ.mark 2 (L.row 5 0 m.marks.length) m.marks.length (flat markVals 0 m.marks):=by
 refine ⟨flat_length markVals 2 (fun _ _=>rfl) m.marks 0,?_⟩
 cases hn:L.nil 5 0 with
 |true=>
  have:=X.olt.n5 hn;rw[this];exact .inl ⟨by simp[Lay.row,hn],rfl⟩
 |false=>
  refine .inr ⟨L.blk 5 0,m.marks.length+L.sp 5 0,(flat markVals 0 m.marks++L.junk 5 0).toArray,row_some hn,Nat.zero_le _,X.rep.at_ 5 0 _ _ rfl (obj5 τ m hn),by omega,X.olt.sp5 hn,?_,?_⟩
  ·simp[flat_length markVals 2 (fun _ _=>rfl),X.olt.j5];omega
  ·simp only[List.toList_toArray];rw[←flat_length markVals 2 (fun _ _=>rfl) m.marks 0];exact List.take_left
theorem flat_mark_snoc(x:Int × Int):∀(l:List (Int × Int)) (s:Nat),flat markVals s (l++[x])=flat markVals s l++[.int .i64 x.1,.int .i64 x.2]
 |[],s=>rfl
 |y :: l,s=>by
  have:=flat_mark_snoc x l (s+1);simp[flat,this]
theorem Mach.addMark(X:Mach τ w L m N){x:Int × Int}{v':Value}(hM:Mod (fun k=>L.nil 5 0=false∧k=L.blk 5 0) w w2)
  (hown:w2.ownsRow 0 τ.mark 2 v' (m.marks.length+1) (flat markVals 0 (m.marks++[x]))) (hfr:∀g,v'.ownBlock=some g→(L.nil 5 0=false∧g=L.blk 5 0)∨w.heap.size≤g) (h5:m.marks.length<500) :
  ∃L',MUp τ w L m (w2.setCell ⟨L.blk 0 0,2,none⟩ v') L' {m with marks:=m.marks++[x]} N:=by
 rcases hown.2 with ⟨_,h0⟩|⟨g,cap,cur,rfl,_,hg,hn,hcm,hcs,htake⟩
 ·omega
 have hps:(obj τ L m 0 0).isSome:=rfl
 have hks:L.nil 5 0=false→(obj τ L m 5 0).isSome:=fun h=>by rw[obj5 τ m h];rfl
 have hjl:(cur.toList.drop ((m.marks.length+1)*2)).length=(cap - (m.marks.length+1))*2:=by simp[hcs];omega
 have hcur:cur=(flat markVals 0 (m.marks++[x])++cur.toList.drop ((m.marks.length+1)*2)).toArray:=by
  apply Array.ext';rw[←htake];simp
 obtain ⟨jk,hjk⟩:∃jk,jk=cur.toList.drop ((m.marks.length+1)*2):=⟨_,rfl⟩;rw[←hjk]at hjl hcur;have hs:=at_self L 5 0 g false (cap - (m.marks.length+1)) jk;have hn0:∀k,L.nil 5 0=false∧k=L.blk 5 0→k≠L.blk 0 0:=fun k h e=>X.rep.ne rfl rfl (hks h.1) hps (by omega) (h.2.symm.trans e)
 have hgne:g≠L.blk 0 0:=fun e=>by
  rcases hfr g rfl with h|h
  ·exact hn0 g h e
  ·have:=X.rep.lt (k:=L.blk 0 0) ⟨0,0,rfl,rfl,rfl⟩;omega
 have hb0:=hM.heap (X.rep.at_ 0 0 _ _ rfl (obj0 τ L m)) (fun h=>hn0 _ h rfl)
 have hMM:Mod (fun k=>k=L.blk 0 0∨(L.nil 5 0=false∧k=L.blk 5 0)) w (w2.setCell ⟨L.blk 0 0,2,none⟩ (.slice (some ⟨g,0,none⟩) (m.marks.length+1) cap)):=
  (hM.mono fun k _ h=>.inr h).setCell (fun _=>.inl rfl) _
 have hMod:Mod (Foot τ allK L m) w (w2.setCell ⟨L.blk 0 0,2,none⟩ (.slice (some ⟨g,0,none⟩) (m.marks.length+1) cap)):=
  hMM.mono fun k _ hx=>hx.elim (fun e=>⟨0,0,rfl,hps,e.symm⟩) (fun e=>⟨5,0,rfl,hks e.1,e.2.symm⟩)
 have hrow:(L.at_ 5 0 g false (cap - (m.marks.length+1)) jk).row 5 0 (m.marks.length+1)=.slice (some ⟨g,0,none⟩) (m.marks.length+1) cap:=by
  simp only[Lay.row,hs.1,hs.2.1,hs.2.2.1];rw[if_neg (by decide),show m.marks.length+1+(cap - (m.marks.length+1))=cap from by omega]
 have hoth:=marks_obj τ L m g false (cap - (m.marks.length+1)) jk (m.marks++[x])
 have hfoot:=foot_at (τ:=τ) (K:=allK) (w:=w) (L:=L) (m:=m) (m':={m with marks:=m.marks++[x]}) (k:=5) (i:=0) (b:=g) (nl:=false) (s:=cap - (m.marks.length+1)) (jk:=jk) (p:=0) (q:=0) rfl rfl hps hks (fun h=>by cases h) (fun _=>hfr g rfl) hoth
 have hR:Rep τ allK (w2.setCell ⟨L.blk 0 0,2,none⟩ (.slice (some ⟨g,0,none⟩) (m.marks.length+1) cap)) (L.at_ 5 0 g false (cap - (m.marks.length+1)) jk) {m with marks:=m.marks++[x]}:=by
  refine X.rep.rerow (p:=0) (q:=0) rfl rfl (by omega) hps hks (fun h=>by cases h) hMM (fun _=>hfr g rfl) hoth (fun cs T ho=>?_) (fun cs T ho=>?_)
  ·rw[obj0]at ho;cases ho;rw[heap_setCell_same hb0];have e1:(L.at_ 5 0 g false (cap - (m.marks.length+1)) jk).row 4 0 m.T.length=L.row 4 0 m.T.length:=at_row L 5 0 g false _ jk 4 0 _ (by omega)
   have e2:(L.at_ 5 0 g false (cap - (m.marks.length+1)) jk).blk 1 0=L.blk 1 0:=at_blk L 5 0 g false _ jk 1 0 (by omega);simp only[List.length_append,List.length_singleton,e1,e2,hrow];simp
  ·rw[obj5 τ _ hs.2.1,hs.2.2.2]at ho;cases ho;rw[heap_setCell_other hgne,←hcur];exact hg
 have hT:∀(t:Nat) x',m.T[t]?=some x'→∃x,m.T[t]?=some x∧x'.code=x.code:=fun t x' hx=>⟨x',hx,rfl⟩
 refine ⟨L.at_ 5 0 g false (cap - (m.marks.length+1)) jk,⟨hR,⟨X.om.cells1,X.om.cells,X.om.words,X.om.times,X.om.waits,X.om.wlen,X.om.wval,X.om.N0⟩,?_,⟨X.ot.len,X.ot.t1,X.ot.regs,X.ot.code,by simp;omega,X.ot.f0⟩,?_,codes_keep X.codes hMod rfl hT hfoot⟩,⟨at_blk L 5 0 g false _ jk 0 0 (by omega),at_blk L 5 0 g false _ jk 1 0 (by omega)⟩,rfl,hT,hMod,hfoot⟩
 ·refine ⟨?_,?_,?_,?_,?_,?_,?_,?_⟩
  ·rw[at_nil L 5 0 _ _ _ _ 2 0 (by omega)];exact X.ol.n2
  ·rw[at_nil L 5 0 _ _ _ _ 3 0 (by omega)];exact X.ol.n3
  ·intro i hi;rw[at_nil L 5 0 _ _ _ _ 6 i (by omega)];exact X.ol.n6 i hi
  ·intro t l h1 h2;rw[at_nil L 5 0 _ _ _ _ 7 t (by omega)]at h2;exact X.ol.n7 t l h1 h2
  ·rw[at_sp L 5 0 _ _ _ _ 2 0 (by omega)];exact X.ol.sp2
  ·rw[at_sp L 5 0 _ _ _ _ 3 0 (by omega)];exact X.ol.sp3
  ·intro t l h1 h2;rw[at_nil L 5 0 _ _ _ _ 7 t (by omega)]at h2;rw[at_sp L 5 0 _ _ _ _ 7 t (by omega)];exact X.ol.sp7 t l h1 h2
  ·intro t;rw[at_junk L 5 0 _ _ _ _ 7 t (by omega),at_sp L 5 0 _ _ _ _ 7 t (by omega)];exact X.ol.j7 t
 ·refine ⟨?_,?_,?_,?_,?_,?_,?_⟩
  ·rw[at_nil L 5 0 _ _ _ _ 4 0 (by omega)];exact X.olt.n4
  ·intro t ht;rw[at_nil L 5 0 _ _ _ _ 8 t (by omega)];exact X.olt.n8 t ht
  ·intro h;rw[hs.2.1]at h;cases h
  ·rw[at_sp L 5 0 _ _ _ _ 4 0 (by omega)];exact X.olt.sp4
  ·intro t ht;rw[at_sp L 5 0 _ _ _ _ 8 t (by omega)];exact X.olt.sp8 t ht
  ·intro _;rw[hs.2.2.1];simp;omega
  ·rw[hs.2.2.1,hs.2.2.2];exact hjl
end Qh
end
section
namespace Qh
open Go Go.RowKit Qs
def insV(_:Nat)(x:Instr):List Value:=instrVals x
def InsRow(T:TypeId)(w:World)(v:Value)(l:List Instr):Prop:=w.ownsRow 0 T 5 v l.length (flat insV 0 l)
theorem InsRow.slice{T:TypeId}{w:World}{v:Value}{l:List Instr}(h:InsRow T w v l):∃a c,v=.slice a l.length c∧c≤maxLen∧l.length≤maxLen:=by
 rcases h.2 with ⟨rfl,h0⟩|⟨g,cap,cur,rfl,_,_,h1,h2,_⟩
 ·rw[h0];exact ⟨none,0,rfl,Nat.zero_le _,Nat.zero_le _⟩
 ·exact ⟨_,_,rfl,h2,Nat.le_trans h1 h2⟩
theorem InsRow.code{T:TypeId}{w:World}{v:Value}{l:List Instr}(h:InsRow T w v l):CodeAt w v l:=by
 rcases h.2 with ⟨rfl,h0⟩|⟨g,cap,cur,rfl,_,hg,h1,h2,h3,h4⟩
 ·refine ⟨none,0,by rw[h0],Nat.zero_le _,fun i x hx=>?_⟩;have:=(List.getElem?_eq_some_iff.1 hx).1;omega
 ·refine ⟨_,_,rfl,h2,fun i x hx=>⟨g,0,rfl,lt_of_block hg,fun j y hy=>?_⟩⟩;have hlt:j<5:=(List.getElem?_eq_some_iff.1 hy).1;have hgt:=flat_get insV 5 (fun _ _=>rfl) hlt l 0 i x hx [];rw[List.append_nil]at hgt;rw[cell_of_heap hg,Nat.zero_add];have hi:i<l.length:=(List.getElem?_eq_some_iff.1 hx).1
  have e:cur[i*5+j]?=(cur.toList.take (l.length*5))[i*5+j]?:=by
   rw[List.getElem?_take,if_pos (by omega)];simp
  rw[e,h4,hgt];exact hy
theorem InsRow.lt{T:TypeId}{w:World}{v:Value}{l:List Instr}(h:InsRow T w v l){g:Nat}(hg:v.ownBlock=some g):g<w.heap.size:=(World.ownsRow.lt h g hg).2
theorem appended{w w1 w2:World}{r:Option Nat}(hg:w1.grownBy w2 r)(h:Mod noF w w1):Mod (fun k=>r=some k) w w2:=
 h.any.grown hg fun k hk _=>hk
end Qh
end
namespace Go.Proofs.YtciaficoeajeaaaGreatDoor
section
open Go.RowKit Qs Qh
def RowsAt0(w:World)(v:Value)(ll:List (List Int)):Prop:=
 ∃a c,v=.slice a ll.length c∧∀(i:Nat) l,ll[i]?=some l→∃b off u,a=some ⟨b,off,none⟩∧b<w.heap.size∧w.cell? ⟨b,off+i,none⟩=some u∧IntsAt w u l∧True
theorem RowsAt0.keep{w w':World}{v:Value}{ll:List (List Int)}(h:RowsAt0 w v ll)(hB:Below w.heap.size w w'):RowsAt0 w' v ll:=by
 obtain ⟨a,c,e,hx⟩:=h;refine ⟨a,c,e,fun i l hi=>?_⟩;obtain ⟨b,off,u,e1,hb,hc,hi2,ho⟩:=hx i l hi;have hM:=Mod.below hB;exact ⟨b,off,u,e1,Nat.lt_of_lt_of_le hb hM.size,hM.cell hc (fun e=>e),hi2.frame0 hM,ho⟩
end
section
open Go
theorem cardMain : Tryz.pinned.checked.prog.mainIs = some (((true, "f3f0b699d4c0f6d830ceaaad620d2c695ac369f0019a723d93969ca32a1cb32c") : Bool × String).1, ((true, "f3f0b699d4c0f6d830ceaaad620d2c695ac369f0019a723d93969ca32a1cb32c") : Bool × String).2.toList) := by kernel_rfl
theorem cardLooks:true = Tryz.pinned.checked.prog.looks []:=by kernel_rfl
end
end Go.Proofs.YtciaficoeajeaaaGreatDoor
