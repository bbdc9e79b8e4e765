/- Texts that belong together, joined. -/

set_option linter.unusedVariables false
set_option linter.unusedSimpArgs false
set_option linter.unusedSectionVars false
section
namespace Qs
structure Instr where
 op:Nat
 A:Int
 B:Int
 C:Int
 to:List UInt8
deriving DecidableEq
structure Cell where
 words:List Int
 times:Int
 here:Bool
deriving DecidableEq
structure Wt where
 c:Int
 g:Int
 w:Int
 v:Int
deriving DecidableEq
structure Thr where
 code:List Instr
 regs:List Int
 pc:Nat
deriving DecidableEq
structure M where
 cells:List Cell
 waits:List (List Wt)
 T:List Thr
 marks:List (Int × Int)
 faults:Int
deriving DecidableEq
abbrev W32:Int:=4294967296
def isWord(n:Int):Bool:=decide (0≤n)&&decide (n<W32)
def cellAt(l:List Cell)(c:Int):Option Cell:=if c<0 then none else l[c.toNat]?
def hereIn(l:List Cell)(c g:Int):Bool:=
 match cellAt l c with
 |some x=>x.here&&decide (g=x.times - 1)
 |none=>false
def refOf(n:Int):Option (Int × Int):=
 if n=0 then none else if isWord n then some ((n - 1) % 64,(n - 1)/64)else none
def wordOf(c g:Int):Int:=
 if 0≤c∧c<64∧0≤g∧g≤67108864∧isWord (g*64+c+1)then g*64+c+1 else 0
def setWord(l:List Cell)(c:Nat)(w:Nat)(v:Int):List Cell:=
 l.modify c fun x=>{x with words:=x.words.set w v}
def getWord(l:List Cell)(c:Nat)(w:Nat):Int:=((l[c]?).map fun x=>x.words.getD w 0).getD 0
def look(ws:List Wt)(c g w:Int)(v:Int):Int:=
 ws.foldl (fun v x=>if x.c=c∧x.g=g∧x.w=w then x.v else v) v
def drain1(l:List Cell)(x:Wt):List Cell × Bool:=
 if hereIn l x.c x.g then (setWord l x.c.toNat x.w.toNat x.v,false)else (l,true)
def drainAll:List Cell→List Wt→List Cell × Nat
 |l,[]=>(l,0)
 |l,x :: r=>
  let a:=drain1 l x
  let b:=drainAll a.1 r
  (b.1,b.2+(if a.2 then 1 else 0))
def M.waitsOf(m:M)(t:Nat):List Wt:=m.waits.getD t []
def M.fence(m:M)(t:Nat):M:=
 let a:=drainAll m.cells (m.waitsOf t)
 {m with cells:=a.1,waits:=m.waits.set t [],faults:=m.faults+a.2}
def M.force(m:M):Nat→M
 |0=>m
 |k+1=>(m.force k).fence k
def M.drain(m:M)(t:Nat):M × Int:=
 match m.waitsOf t with
 |[]=>(m,5)
 |x :: r=>
  let a:=drain1 m.cells x
  ({m with cells:=a.1,waits:=m.waits.set t r,faults:=m.faults+(if a.2 then 1 else 0)},0)
def labelAt(to:List UInt8):List Instr→Nat→Option Nat
 |[],_=>none
 |x :: r,i=>if x.op=17∧x.to=to then some i else labelAt to r (i+1)
def allocAt:List Cell→Nat→Option (Nat × Int)
 |[],_=>none
 |x :: r,i=>if x.here then allocAt r (i+1)else some (i,x.times)
def Thr.reg(h:Thr)(a:Int):Int:=h.regs.getD a.toNat 0
def M.thr(m:M)(t:Nat):Thr:=m.T.getD t ⟨[],[],0⟩
def M.setReg(m:M)(t:Nat)(a:Int)(v:Int):M:=
 {m with T:=m.T.modify t fun h=>{h with regs:=h.regs.set a.toNat v}}
def M.setPc(m:M)(t:Nat)(p:Nat):M:=
 {m with T:=m.T.modify t fun h=>{h with pc:=p}}
def M.names(m:M)(n:Int):Option (Int × Int):=
 match refOf n with
 |some (c,g)=>if hereIn m.cells c g then some (c,g)else none
 |none=>none
def M.fault(m:M):M:={m with faults:=m.faults+1}
def M.done(m:M)(t:Nat):Bool:=
 match (m.thr t).code[(m.thr t).pc]? with
 |none=>true
 |some x=>x.op==20
def M.jump(m:M)(t:Nat)(to:List UInt8):M:=m.setPc t ((labelAt to (m.thr t).code 0).getD 0)
def sum2(op:Nat)(a b:Int):Int:=
 match op with
 |2=>if a+b≥W32 then a+b - W32 else a+b
 |3=>if a - b<0 then a - b+W32 else a - b
 |4=>((a.toNat &&& b.toNat:Nat):Int)
 |_=>((a.toNat ^^^ b.toNat:Nat):Int)
def M.exec(m:M)(t:Nat)(x:Instr):M:=
 let h:=m.thr t
 match x.op with
 |0=>m.setReg t x.A x.B
 |1=>m.setReg t x.A (h.reg x.B)
 |2=>m.setReg t x.A (sum2 2 (h.reg x.B) (h.reg x.C))
 |3=>m.setReg t x.A (sum2 3 (h.reg x.B) (h.reg x.C))
 |4=>m.setReg t x.A (sum2 4 (h.reg x.B) (h.reg x.C))
 |5=>m.setReg t x.A (sum2 5 (h.reg x.B) (h.reg x.C))
 |6=>match m.names (h.reg x.B)with
  |some (c,g)=>m.setReg t x.A (look (m.waitsOf t) c g x.C (getWord m.cells c.toNat x.C.toNat))
  |none=>m.fault.setReg t x.A 0
 |7=>match m.names (h.reg x.A)with
  |some (c,g)=>
   let m1:=if (m.waitsOf t).length≥8 then (m.drain t).1 else m
   {m1 with waits:=m1.waits.modify t fun l=>l++[⟨c,g,x.C,h.reg x.B⟩]}
  |none=>m.fault
 |8=>match m.names (h.reg x.B)with
  |some (c,_)=>
   let m1:=m.fence t
   ({m1 with cells:=setWord m1.cells c.toNat x.C.toNat (h.reg x.A)}:M).setReg t x.A (getWord m1.cells c.toNat x.C.toNat)
  |none=>m.fault.setReg t x.A 0
 |9=>match m.names (h.reg x.A)with
  |some (c,_)=>
   let m1:=m.fence t
   let v:=getWord m1.cells c.toNat x.C.toNat
   (if v=h.reg x.B then ({m1 with cells:=setWord m1.cells c.toNat x.C.toNat (h.reg (x.B+1))}:M)else m1).setReg t x.B v
  |none=>m.fault.setReg t x.B 0
 |10=>match allocAt m.cells 0 with
  |some (i,n)=>({m with cells:=m.cells.set i ⟨[0,0,0,0],n+1,true⟩}:M).setReg t x.A (wordOf i n)
  |none=>m.setReg t x.A 0
 |11=>match m.names (h.reg x.A)with
  |some (c,_)=>
   let m1:=m.fence t
   {m1 with cells:=m1.cells.modify c.toNat fun y=>{y with here:=false}}
  |none=>m.fault
 |12=>m.fence t
 |13=>m.force m.T.length
 |14=>if h.reg x.A=0 then m.jump t x.to else m
 |15=>if h.reg x.A=h.reg x.B then m.jump t x.to else m
 |16=>m.jump t x.to
 |18=>if m.marks.length<500 then {m with marks:=m.marks++[((t:Int),h.reg x.A)]}else m
 |19=>if h.reg x.A=0 then m.fault else m
 |_=>m
def M.step(m:M)(t:Nat):M × Int:=
 match (m.thr t).code[(m.thr t).pc]? with
 |none=>(m,9)
 |some x=>if x.op=20 then (m,9)else ((m.setPc t ((m.thr t).pc+1)).exec t x,0)
def M.turn(m:M)(n:Int):M × Int:=
 let k:=(n % (2*(m.T.length:Int))).toNat
 if k<m.T.length then m.step k else m.drain (k - m.T.length)
def M.run:M→List Int→M × Int
 |m,[]=>(m,0)
 |m,n :: r=>
  let a:=m.turn n
  let b:=a.1.run r
  (b.1,b.2+(if a.2=0 then 1 else 0))
def M.rest(m:M):Bool:=(List.range m.T.length).all fun t=>m.done t&&(m.waitsOf t).isEmpty
end Qs
end
section
namespace Qu
def upd{α : Type}(f:Nat→α)(t:Nat)(v : α):Nat→α:=fun u=>if u=t then v else f u
theorem upd_same{α : Type}(f:Nat→α)(t:Nat)(v : α):upd f t v t=v:=if_pos rfl
theorem upd_ne{α : Type}(f:Nat→α){t u:Nat}(v : α)(h:u≠t):upd f t v u=f u:=if_neg h
structure Gh where
 rem:Nat→List Int
 chv:List Int
 pend:Nat→List Int
 marks:List (Int × Int)
 lost:List Int
def sumN(f:Nat→Nat):Nat→Nat
 |0=>0
 |k+1=>sumN f k+f k
theorem sumN_cong{f g:Nat→Nat}:∀(k:Nat),(∀i,i<k→f i=g i)→sumN f k=sumN g k
 |0,_=>rfl
 |k+1,h=>by
  show sumN f k+f k=sumN g k+g k;rw[sumN_cong k fun i hi=>h i (by omega),h k (by omega)]
theorem sumN_upd(f:Nat→Nat)(t v:Nat):∀(k:Nat),t<k→sumN (upd f t v) k+f t=sumN f k+v
 |0,h=>by omega
 |k+1,h=>by
  show sumN (upd f t v) k+upd f t v k+f t=sumN f k+f k+v
  by_cases e:t=k
  ·subst e;have h2:sumN (upd f t v) t=sumN f t:=sumN_cong t fun i hi=>upd_ne f v (by omega);rw[upd_same,h2];omega
  ·have:=sumN_upd f t v k (by omega);rw[upd_ne f v (fun h=>e h.symm)];omega
theorem sumN_at(f:Nat→Nat)(t:Nat):∀(k:Nat),t<k→f t≤sumN f k
 |0,h=>by omega
 |k+1,h=>by
  show f t≤sumN f k+f k
  by_cases e:t=k
  ·subst e;omega
  ·have:=sumN_at f t k (by omega);omega
namespace Gh
def tot(G:Gh)(n:Nat)(v:Int):Nat:=sumN (fun t=>(G.rem t).count v) n+G.chv.count v+sumN (fun t=>(G.pend t).count v) n+(G.marks.map (·.2)).count v+G.lost.count v
end Gh
theorem count_upd(f:Nat→List Int)(t:Nat)(l:List Int)(v:Int):(fun u=>(upd f t l u).count v)=upd (fun u=>(f u).count v) t (l.count v):=by
 funext u
 unfold upd
 split <;> rfl
def Gh.num(G:Gh)(n:Nat):Nat:=sumN (fun t=>(G.rem t).length) n+G.chv.length+sumN (fun t=>(G.pend t).length) n+G.marks.length+G.lost.length
theorem len_upd(f:Nat→List Int)(t:Nat)(l:List Int):(fun u=>(upd f t l u).length)=upd (fun u=>(f u).length) t l.length:=by
 funext u
 unfold upd
 split <;> rfl
end Qu
end
section
namespace Qu
open Qs
theorem labelAt_shift(to:List UInt8):∀(c:List Instr) (k d:Nat),labelAt to c (k+d)=(labelAt to c k).map (· + d)
 |[],_,_=>rfl
 |x :: r,k,d=>by
  unfold labelAt
  split
  ·rfl
  ·rw[show k+d+1=k+1+d from by omega];exact labelAt_shift to r (k+1) d
theorem labelAt_skip{to:List UInt8}:∀ {A:List Instr} (B:List Instr) (k:Nat),(∀x∈A,x.op=17→x.to≠to)→labelAt to (A++B) k=labelAt to B (k+A.length)
 |[],B,k,_=>rfl
 |x :: A,B,k,h=>by
  show labelAt to (x :: (A++B)) k=_;unfold labelAt;rw[if_neg (fun g=>h x (by simp) g.1 g.2),labelAt_skip B (k+1) (fun y hy=>h y (by simp[hy])),List.length_cons,show k+1+A.length=k+(A.length+1)from by omega];cases B <;> rfl
theorem labelAt_first{to:List UInt8}:∀ {A:List Instr} (B:List Instr) (k:Nat) {j:Nat},labelAt to A k=some j→labelAt to (A++B) k=some j
 |[],B,k,j,h=>by cases h
 |x :: A,B,k,j,h=>by
  show labelAt to (x :: (A++B)) k=_;unfold labelAt at h ⊢
  split
  ·rename_i g;rw[if_pos g]at h;exact h
  ·rename_i g;rw[if_neg g]at h;exact labelAt_first B (k+1) h
theorem row_label{A B C:List Instr}{to:List UInt8}{j:Nat}(h:∀x∈A,x.op=17→x.to≠to)(hb:labelAt to B 0=some j):labelAt to (A++(B++C)) 0=some (A.length+j):=by
 rw[labelAt_skip _ _ h,labelAt_shift to (B++C) 0 A.length,labelAt_first C 0 hb];simp[Nat.add_comm]
def ren(ρ : List UInt8→List UInt8)(x:Instr):Instr:={x with to:=ρ x.to}
theorem labelAt_ren{ρ : List UInt8→List UInt8}{to:List UInt8}:∀ {A:List Instr} (k:Nat),(∀x∈A,x.op=17→ρ x.to = ρ to→x.to=to)→labelAt (ρ to) (A.map (ren ρ)) k=labelAt to A k
 |[],_,_=>rfl
 |x :: A,k,h=>by
  show labelAt (ρ to) (ren ρ x :: A.map (ren ρ)) k=_;unfold labelAt;have ih:=labelAt_ren (A:=A) (k+1) fun y hy=>h y (by simp[hy])
  by_cases g:x.op=17∧x.to=to
  ·rw[if_pos g,if_pos ⟨g.1,by show ρ x.to=_;rw[g.2]⟩]
  ·rw[if_neg g,if_neg (fun g2=>g ⟨g2.1,h x (by simp) g2.1 g2.2⟩),ih]
end Qu
end
section
namespace Qs
theorem M.rest_iff{m:M}:m.rest=true↔∀t,t<m.T.length→m.done t=true∧m.waitsOf t=[]:=by
 unfold M.rest;simp[List.all_eq_true]
end Qs
end
section
namespace Qg
open Qs
structure En where
 a:Int
 w:Nat
 v:Int
deriving DecidableEq
structure A where
 here:Int→Bool
 val:Int→Nat→Int
 buf:Nat→List En
 reg:Nat→Nat→Int
 pc:Nat→Nat
def lk1(l:List En)(x:Int)(w:Nat)(v:Int):Int:=l.foldl (fun v e=>if e.a=x∧e.w=w then e.v else v) v
namespace A
def vw(s:A)(t:Nat)(x:Int)(w:Nat):Int:=lk1 (s.buf t) x w (s.val x w)
def put(s:A)(e:En):A:={s with val:=fun x w=>if x=e.a∧w=e.w then e.v else s.val x w}
def setB(s:A)(t:Nat)(l:List En):A:={s with buf:=fun u=>if u=t then l else s.buf u}
def setR(s:A)(t k:Nat)(v:Int):A:={s with reg:=fun u i=>if u=t∧i=k then v else s.reg u i}
def setP(s:A)(t p:Nat):A:={s with pc:=fun u=>if u=t then p else s.pc u}
def dr(s:A)(t:Nat):A:=match s.buf t with
 |[]=>s
 |e :: r=>(s.put e).setB t r
def dra:A→Nat→Nat→A
 |s,t,0=>s
 |s,t,k+1=>(s.dr t).dra t k
def fn(s:A)(t:Nat):A:=s.dra t (s.buf t).length
def fo(s:A):Nat→A
 |0=>s
 |k+1=>(s.fo k).fn k
def free(s:A)(a:Int):A:={s with here:=fun x=>if x=a then false else s.here x,val:=fun x w=>if x=a then 0 else s.val x w}
def give(s:A)(a:Int):A:={s with here:=fun x=>if x=a then true else s.here x,val:=fun x w=>if x=a then 0 else s.val x w}
end A
def enOf(x:Wt):En:=⟨x.g*64+x.c+1,x.w.toNat,x.v⟩
def celOf(x:Int):Nat:=((x - 1) % 64).toNat
def absM(m:M):A:=
 {here:=fun x=>(m.names x).isSome
  val:=fun x w=>if (m.names x).isSome then getWord m.cells (celOf x) w else 0
  buf:=fun t=>(m.waitsOf t).map enOf
  reg:=fun t k=>(m.thr t).regs.getD k 0
  pc:=fun t=>(m.thr t).pc}
def WtOk(x:Wt):Prop:=0≤x.c∧x.c<64∧0≤x.g∧x.g*64+x.c+1<4294967296∧0≤x.w∧x.w<4
structure WM(n:Nat)(code:Nat→List Instr)(m:M):Prop where
 T:m.T.length=n
 W:m.waits.length=n
 code:∀t,t<n→(m.thr t).code=code t
 regs:∀t,t<n→(m.thr t).regs.length=8
 words:∀c∈m.cells,c.words.length=4
 cells:m.cells.length≤64
 wts:∀t,∀x∈m.waitsOf t,WtOk x
variable {n t:Nat}{code:Nat→List Instr}{m:M}{c:Nat}
theorem hereIn_iff{l:List Cell}{c g:Int}:hereIn l c g=true↔0≤c∧∃x,l[c.toNat]?=some x∧x.here=true∧g=x.times - 1:=by
 unfold hereIn cellAt
 by_cases h:c<0
 ·rw[if_pos h];simp;omega
 ·rw[if_neg h]
  cases e:l[c.toNat]? with
  |none=>simp
  |some x=>simp;omega
theorem refOf_some{x c g:Int}:refOf x=some (c,g)↔0<x∧x<4294967296∧c=(x - 1) % 64∧g=(x - 1)/64:=by
 unfold refOf isWord
 by_cases h:x=0
 ·subst h;simp
 ·rw[if_neg h]
  by_cases h2:0≤x∧x<W32
  ·rw[if_pos (by simpa using h2)];simp only[W32]at h2;simp only[Option.some.injEq,Prod.mk.injEq];constructor
   ·rintro ⟨rfl,rfl⟩;exact ⟨by omega,by omega,rfl,rfl⟩
   ·rintro ⟨_,_,rfl,rfl⟩;exact ⟨rfl,rfl⟩
  ·rw[if_neg (by simpa using h2)];simp only[W32]at h2;simp;omega
theorem names_some{x c g:Int}:m.names x=some (c,g)↔refOf x=some (c,g)∧hereIn m.cells c g=true:=by
 unfold M.names
 cases e:refOf x with
 |none=>simp
 |some p=>
  obtain ⟨c',g'⟩:=p;simp only
  by_cases h:hereIn m.cells c' g'=true
  ·rw[if_pos h];simp;rintro rfl rfl;exact h
  ·rw[if_neg h];simp;rintro rfl rfl;simpa using h
theorem abs_here{x:Int}:(absM m).here x=true↔0<x∧x<4294967296∧∃y,m.cells[celOf x]?=some y∧y.here=true∧(x - 1)/64=y.times - 1:=by
 show (m.names x).isSome=true↔_;rw[Option.isSome_iff_exists];constructor
 ·rintro ⟨⟨c,g⟩,h⟩;obtain ⟨h1,h2⟩:=names_some.1 h;obtain ⟨h3,h4,rfl,rfl⟩:=refOf_some.1 h1;obtain ⟨h5,y,h6,h7,h8⟩:=hereIn_iff.1 h2;exact ⟨h3,h4,y,h6,h7,h8⟩
 ·rintro ⟨h1,h2,y,h3,h4,h5⟩;exact ⟨((x - 1) % 64,(x - 1)/64),names_some.2 ⟨refOf_some.2 ⟨h1,h2,rfl,rfl⟩,hereIn_iff.2 ⟨by omega,y,h3,h4,h5⟩⟩⟩
theorem abs_names{x:Int}(h:(absM m).here x=true):m.names x=some ((x - 1) % 64,(x - 1)/64):=by
 obtain ⟨h1,h2,y,h3,h4,h5⟩:=abs_here.1 h;exact names_some.2 ⟨refOf_some.2 ⟨h1,h2,rfl,rfl⟩,hereIn_iff.2 ⟨by omega,y,h3,h4,h5⟩⟩
theorem here_inj{x y:Int}(hx:(absM m).here x=true)(hy:(absM m).here y=true)(h:celOf x=celOf y):x=y:=by
 obtain ⟨h1,h2,u,h3,h4,h5⟩:=abs_here.1 hx;obtain ⟨k1,k2,v,k3,k4,k5⟩:=abs_here.1 hy;rw[h,k3]at h3;cases h3;unfold celOf at h;omega
theorem abs_val{x:Int}(h:(absM m).here x=true)(w:Nat):(absM m).val x w=getWord m.cells (celOf x) w:=by
 show (if (m.names x).isSome then _ else _)=_;exact if_pos h
theorem abs_val0{x:Int}(h:¬(absM m).here x=true)(w:Nat):(absM m).val x w=0:=by
 show (if (m.names x).isSome then _ else _)=_;exact if_neg h
theorem A_ext{s r:A}(h1:∀x,s.here x=r.here x)(h2:∀x w,s.val x w=r.val x w)(h3:∀t,s.buf t=r.buf t)(h4:∀t k,s.reg t k=r.reg t k)(h5:∀t,s.pc t=r.pc t):s=r:=by
 obtain ⟨a,b,c,d,e⟩:=s;obtain ⟨a',b',c',d',e'⟩:=r;simp only at h1 h2 h3 h4 h5;obtain rfl:a=a':=funext h1;obtain rfl:b=b':=funext fun x=>funext (h2 x);obtain rfl:c=c':=funext h3;obtain rfl:d=d':=funext fun x=>funext (h4 x);obtain rfl:e=e':=funext h5;rfl
theorem en_cel{x:Wt}(h:WtOk x):celOf (enOf x).a=x.c.toNat∧((enOf x).a - 1) % 64=x.c∧((enOf x).a - 1)/64=x.g∧0<(enOf x).a∧(enOf x).a<4294967296:=by
 obtain ⟨h1,h2,h3,h4,h5,h6⟩:=h;unfold enOf celOf;simp only;omega
theorem look_lk(l:List Wt)(hl:∀x∈l,WtOk x)(x:Int)(hx:0<x)(w:Int)(hw:0≤w):∀v,look l ((x - 1) % 64) ((x - 1)/64) w v=lk1 (l.map enOf) x w.toNat v:=by
 induction l with
 |nil=>intro v;rfl
 |cons y l ih=>
  intro v;show look l _ _ w _=lk1 (l.map enOf) x w.toNat _;rw[ih (fun z hz=>hl z (by simp[hz]))]
  congr 1
  have hy:=hl y (by simp);obtain ⟨h1,h2,h3,h4,h5,h6⟩:=hy
  have:(y.c=(x - 1) % 64∧y.g=(x - 1)/64∧y.w=w)↔((enOf y).a=x∧(enOf y).w=w.toNat):=by
   unfold enOf;simp only;omega
  show (if y.c=(x - 1) % 64∧y.g=(x - 1)/64∧y.w=w then y.v else v)=if (enOf y).a=x∧(enOf y).w=w.toNat then (enOf y).v else v
  by_cases e:y.c=(x - 1) % 64∧y.g=(x - 1)/64∧y.w=w
  ·rw[if_pos e,if_pos (this.1 e)];rfl
  ·rw[if_neg e,if_neg (fun h=>e (this.2 h))]
theorem getWord_set{l:List Cell}{c k w u:Nat}{v:Int}(hl:∀c∈l,c.words.length=4)(hc:c<l.length)(hw:w<4) :
  getWord (setWord l c w v) k u=if k=c∧u=w then v else getWord l k u:=by
 unfold getWord setWord;rw[List.getElem?_modify]
 by_cases e:c=k
 ·subst e;obtain ⟨y,hy⟩:∃y,l[c]?=some y:=⟨_,List.getElem?_eq_getElem hc⟩;have h4:=hl y (List.mem_of_getElem? hy);rw[hy];simp only[if_true,Option.map_some,Option.getD_some,true_and]
  by_cases e2:u=w
  ·subst e2;rw[if_pos rfl];simp[List.getD,h4,hw]
  ·rw[if_neg e2];simp[List.getD,List.getElem?_set_ne (fun h=>e2 h.symm)]
 ·rw[if_neg (fun h=>e h.1.symm)];simp[e]
theorem here_set{l:List Cell}{c w:Nat}{v:Int}(k g:Int):hereIn (setWord l c w v) k g=hereIn l k g:=by
 unfold hereIn cellAt setWord
 by_cases h:k<0
 ·rw[if_pos h,if_pos h]
 ·rw[if_neg h,if_neg h,List.getElem?_modify]
  cases e:l[k.toNat]? with
  |none=>by_cases e2:c=k.toNat <;> simp[e2]
  |some y=>by_cases e2:c=k.toNat <;> simp[e2]
theorem names_cells{m m':M}(h:∀k g,hereIn m'.cells k g=hereIn m.cells k g)(x:Int):m'.names x=m.names x:=by
 unfold M.names
 split
 ·rw[h]
 ·rfl
theorem abs_setWord(hW:∀c∈m.cells,c.words.length=4){x:Int}(h:(absM m).here x=true){w:Nat}(hw:w<4)(v:Int)(W':List (List Wt))(T':List Thr)(mk:List (Int × Int))(ft:Int) :
  absM ⟨setWord m.cells (celOf x) w v,W',T',mk,ft⟩=(absM ⟨m.cells,W',T',mk,ft⟩).put ⟨x,w,v⟩:=by
 obtain ⟨y1,y2,y,y3,y4,y5⟩:=abs_here.1 h;have hn:∀z,M.names ⟨setWord m.cells (celOf x) w v,W',T',mk,ft⟩ z=M.names ⟨m.cells,W',T',mk,ft⟩ z:=fun z=>names_cells (m:=⟨m.cells,W',T',mk,ft⟩) (fun k g=>here_set k g) z
 have hn2:∀z,M.names ⟨m.cells,W',T',mk,ft⟩ z=m.names z:=fun z=>names_cells (m:=m) (fun k g=>rfl) z;refine A_ext (fun z=>?_) (fun z u=>?_) (fun _=>rfl) (fun _ _=>rfl) (fun _=>rfl)
 ·show (M.names _ z).isSome=(M.names _ z).isSome;rw[hn]
 ·show (if (M.names _ z).isSome then getWord _ _ _ else 0)=(if z=x∧u=w then v else if (M.names _ z).isSome then getWord _ _ _ else 0);rw[hn,hn2];simp only[];rw[getWord_set hW (List.getElem?_eq_some_iff.1 y3).1 hw]
  by_cases e:z=x
  ·subst e;have:(m.names z).isSome=true:=h;rw[if_pos this]
   by_cases e2:u=w
   ·rw[if_pos ⟨rfl,e2⟩,if_pos ⟨rfl,e2⟩]
   ·rw[if_neg (fun h=>e2 h.2),if_neg (fun h=>e2 h.2),if_pos this]
  ·rw[if_neg (c:=z=x∧u=w) (fun h=>e h.1)]
   by_cases hz:(m.names z).isSome=true
   ·rw[if_pos hz,if_pos hz,if_neg (fun h'=>e (here_inj hz h h'.1))]
   ·rw[if_neg hz,if_neg hz]
end Qg
end
section
namespace Qg
open Qs
namespace A
def ex(s:A)(t:Nat)(x:Instr)(tg:Nat):A:=
 match x.op with
 |0=>s.setR t x.A.toNat x.B
 |1=>s.setR t x.A.toNat (s.reg t x.B.toNat)
 |2=>s.setR t x.A.toNat (sum2 2 (s.reg t x.B.toNat) (s.reg t x.C.toNat))
 |3=>s.setR t x.A.toNat (sum2 3 (s.reg t x.B.toNat) (s.reg t x.C.toNat))
 |4=>s.setR t x.A.toNat (sum2 4 (s.reg t x.B.toNat) (s.reg t x.C.toNat))
 |5=>s.setR t x.A.toNat (sum2 5 (s.reg t x.B.toNat) (s.reg t x.C.toNat))
 |6=>s.setR t x.A.toNat (s.vw t (s.reg t x.B.toNat) x.C.toNat)
 |7=>s.setB t (s.buf t++[⟨s.reg t x.A.toNat,x.C.toNat,s.reg t x.B.toNat⟩])
 |8=>(s.put ⟨s.reg t x.B.toNat,x.C.toNat,s.reg t x.A.toNat⟩).setR t x.A.toNat (s.val (s.reg t x.B.toNat) x.C.toNat)
 |9=>(if s.val (s.reg t x.A.toNat) x.C.toNat=s.reg t x.B.toNat then s.put ⟨s.reg t x.A.toNat,x.C.toNat,s.reg t (x.B+1).toNat⟩else s).setR t x.B.toNat (s.val (s.reg t x.A.toNat) x.C.toNat)
 |11=>s.free (s.reg t x.A.toNat)
 |14=>if s.reg t x.A.toNat=0 then s.setP t tg else s
 |15=>if s.reg t x.A.toNat=s.reg t x.B.toNat then s.setP t tg else s
 |16=>s.setP t tg
 |_=>s
def pre(s:A)(n t:Nat)(x:Instr):A:=
 match x.op with
 |7=>if (s.buf t).length≥8 then s.dr t else s
 |8=>s.fn t
 |9=>s.fn t
 |11=>s.fn t
 |12=>s.fn t
 |13=>s.fo n
 |_=>s
def Req(s:A)(t:Nat)(x:Instr):Prop:=
 match x.op with
 |6=>s.here (s.reg t x.B.toNat)=true
 |7=>s.here (s.reg t x.A.toNat)=true
 |8=>s.here (s.reg t x.B.toNat)=true
 |9=>s.here (s.reg t x.A.toNat)=true
 |10=>False
 |11=>s.here (s.reg t x.A.toNat)=true
 |18=>False
 |19=>s.reg t x.A.toNat≠0
 |20=>False
 |_=>True
theorem dr_here(s:A)(t:Nat):(s.dr t).here=s.here:=by unfold dr;split <;> rfl
theorem dr_reg(s:A)(t:Nat):(s.dr t).reg=s.reg:=by unfold dr;split <;> rfl
theorem dr_pc(s:A)(t:Nat):(s.dr t).pc=s.pc:=by unfold dr;split <;> rfl
theorem dr_buf(s:A)(t u:Nat):(s.dr t).buf u=if u=t then (s.buf t).tail else s.buf u:=by
 unfold dr
 split
 ·rename_i h;by_cases e:u=t
  ·rw[if_pos e,e,h];rfl
  ·rw[if_neg e]
 ·rename_i a r h
  show (if u=t then r else s.buf u)=_;rw[h];rfl
theorem dr_mem{s:A}{t u:Nat}{e:En}(h:e∈(s.dr t).buf u):e∈s.buf u:=by
 rw[dr_buf]at h
 split at h
 ·rename_i e2;rw[e2];exact List.mem_of_mem_tail h
 ·exact h
theorem dra_buf:∀(k:Nat) (s:A) (t u:Nat),(s.dra t k).buf u=if u=t then (s.buf t).drop k else s.buf u
 |0,s,t,u=>by unfold dra;split;(rename_i h;rw[h,List.drop_zero]);rfl
 |k+1,s,t,u=>by
  unfold dra;rw[dra_buf k,dr_buf,dr_buf]
  by_cases e:u=t
  ·simp[e]
  ·simp[e]
theorem dra_here:∀(k:Nat) (s:A) (t:Nat),(s.dra t k).here=s.here
 |0,s,t=>rfl
 |k+1,s,t=>by unfold dra;rw[dra_here k,dr_here]
theorem dra_reg:∀(k:Nat) (s:A) (t:Nat),(s.dra t k).reg=s.reg
 |0,s,t=>rfl
 |k+1,s,t=>by unfold dra;rw[dra_reg k,dr_reg]
theorem fn_buf(s:A)(t u:Nat):(s.fn t).buf u=if u=t then []else s.buf u:=by
 unfold fn;rw[dra_buf];simp
theorem fn_here(s:A)(t:Nat):(s.fn t).here=s.here:=dra_here _ _ _
theorem fn_reg(s:A)(t:Nat):(s.fn t).reg=s.reg:=dra_reg _ _ _
theorem fo_here(s:A):∀k,(s.fo k).here=s.here
 |0=>rfl
 |k+1=>by unfold fo;rw[fn_here,fo_here s k]
theorem fo_buf(s:A):∀k u,(s.fo k).buf u=if u<k then []else s.buf u
 |0,u=>by simp[fo]
 |k+1,u=>by
  unfold fo;rw[fn_buf,fo_buf s k]
  by_cases e:u=k
  ·simp[e]
  ·by_cases e2:u<k
   ·simp[e,e2,show u<k+1 by omega]
   ·simp[e,e2,show ¬u<k+1 by omega]
theorem dra_keep{P:A→Prop}(h:∀s t,P s→P (s.dr t)):∀(k:Nat) (s:A) (t:Nat),P s→P (s.dra t k)
 |0,s,t,hp=>hp
 |k+1,s,t,hp=>dra_keep h k _ t (h s t hp)
theorem fn_keep{P:A→Prop}(h:∀s t,P s→P (s.dr t))(s:A)(t:Nat)(hp:P s):P (s.fn t):=dra_keep h _ s t hp
theorem fo_keep{P:A→Prop}(h:∀s t,P s→P (s.dr t))(s:A)(hp:P s):∀k,P (s.fo k)
 |0=>hp
 |k+1=>fn_keep h _ k (fo_keep h s hp k)
theorem pre_keep{P:A→Prop}(h:∀s t,P s→P (s.dr t))(s:A)(n t:Nat)(x:Instr)(hp:P s):P (s.pre n t x):=by
 unfold pre
 split
 ·split
  ·exact h s t hp
  ·exact hp
 ·exact fn_keep h s t hp
 ·exact fn_keep h s t hp
 ·exact fn_keep h s t hp
 ·exact fn_keep h s t hp
 ·exact fo_keep h s hp n
 ·exact hp
end A
variable {n t:Nat}{code:Nat→List Instr}{m:M}{c:Nat}
theorem WM.cong{m':M}(W:WM n code m)(h1:m'.T=m.T)(h2:m'.waits.length=n)(h3:∀c∈m'.cells,c.words.length=4)(h4:m'.cells.length=m.cells.length)(h5:∀t,∀x∈m'.waitsOf t,WtOk x):WM n code m':=
 ⟨by rw[h1];exact W.T,h2,fun t ht=>by have:=W.code t ht;unfold M.thr at this ⊢;rw[h1];exact this,fun t ht=>by have:=W.regs t ht;unfold M.thr at this ⊢;rw[h1];exact this,h3,by rw[h4];exact W.cells,h5⟩
theorem set_words{l:List Cell}(hl:∀c∈l,c.words.length=4)(k w:Nat)(v:Int):∀c∈setWord l k w v,c.words.length=4:=by
 intro c hc;obtain ⟨i,hi⟩:=List.getElem?_of_mem hc;unfold setWord at hi;rw[List.getElem?_modify]at hi
 cases e:l[i]? with
 |none=>rw[e]at hi;simp at hi
 |some y=>
  have hy:=hl y (List.mem_of_getElem? e);rw[e]at hi
  by_cases e2:k=i
  ·subst e2;simp at hi;subst hi;simpa using hy
  ·simp[e2]at hi;subst hi;exact hy
theorem waitsOf_set(m:M)(t u:Nat)(l:List Wt)(ht:t<m.waits.length):M.waitsOf {m with waits:=m.waits.set t l} u=if u=t then l else m.waitsOf u:=by
 unfold M.waitsOf;simp only[List.getD,List.getElem?_set]
 by_cases e:t=u
 ·subst e;simp[ht]
 ·rw[if_neg e,if_neg (fun h=>e h.symm)]
theorem abs_drain(W:WM n code m)(ht:t<n)(hb:∀e∈(absM m).buf t,(absM m).here e.a=true) :
  absM (m.drain t).1=(absM m).dr t∧(m.drain t).1.faults=m.faults∧WM n code (m.drain t).1∧(m.drain t).1.T=m.T:=by
 unfold M.drain
 cases e:m.waitsOf t with
 |nil=>
  refine ⟨?_,rfl,W,rfl⟩;unfold A.dr;rw[show (absM m).buf t=[]from by show (m.waitsOf t).map enOf=[];rw[e];rfl]
 |cons x r=>
  have hok:=W.wts t x (by rw[e];simp)
  have hbuf:(absM m).buf t=enOf x :: r.map enOf:=by show (m.waitsOf t).map enOf=_;rw[e];rfl
  have hh:=hb (enOf x) (by rw[hbuf];simp);obtain ⟨c1,c2,c3,c4,c5⟩:=en_cel hok;obtain ⟨_,_,y,y3,y4,y5⟩:=abs_here.1 hh;have hin:hereIn m.cells x.c x.g=true:=hereIn_iff.2 ⟨hok.1,y,by rw[←c1];exact y3,y4,by rw[←c3];exact y5⟩
  have hd:drain1 m.cells x=(setWord m.cells x.c.toNat x.w.toNat x.v,false):=by unfold drain1;rw[if_pos hin]
  simp only[hd]
  have hwl:t<m.waits.length:=by rw[W.W];exact ht
  have hw3:x.w.toNat<4:=by have:=hok.2.2.2.2;omega
  refine ⟨?_,by simp,?_,trivial⟩
  ·have:=abs_setWord (m:=m) W.words hh (w:=x.w.toNat) hw3 x.v (m.waits.set t r) m.T m.marks (m.faults+if false=true then 1 else 0);rw[c1]at this;rw[this];unfold A.dr;rw[hbuf];refine A_ext (fun _=>rfl) (fun _ _=>rfl) (fun u=>?_) (fun _ _=>rfl) (fun _=>rfl)
   show (M.waitsOf {m with waits:=m.waits.set t r} u).map enOf=if u=t then r.map enOf else (m.waitsOf u).map enOf
   rw[waitsOf_set m t u r hwl]
   by_cases e2:u=t
   ·rw[if_pos e2,if_pos e2]
   ·rw[if_neg e2,if_neg e2]
  ·refine W.cong rfl (by simp[W.W]) (set_words W.words _ _ _) (by simp[setWord]) (fun u z hz=>?_);have hz':z∈M.waitsOf {m with waits:=m.waits.set t r} u:=hz;rw[waitsOf_set m t u r hwl]at hz'
   split at hz'
   ·exact W.wts t z (by rw[e];simp[hz'])
   ·exact W.wts u z hz'
theorem fence_nil(m:M)(t:Nat)(h:m.waitsOf t=[]):m.fence t=m:=by
 unfold M.fence;rw[h]
 have:m.waits.set t []=m.waits:=by
  apply List.ext_getElem?;intro i;rw[List.getElem?_set]
  by_cases e:t=i
  ·subst e;unfold M.waitsOf at h
   by_cases hl:t<m.waits.length
   ·simp only[if_true,hl];rw[List.getD,List.getElem?_eq_getElem hl]at h;simp at h;rw[List.getElem?_eq_getElem hl,h]
   ·simp[hl]
  ·rw[if_neg e]
 simp only[drainAll,this];simp
theorem fence_cons(m:M)(t:Nat)(x:Wt)(r:List Wt)(h:m.waitsOf t=x :: r)(ht:t<m.waits.length):m.fence t=(m.drain t).1.fence t:=by
 unfold M.fence M.drain;rw[h];simp only[drainAll]
 have:M.waitsOf ⟨(drain1 m.cells x).1,m.waits.set t r,m.T,m.marks,m.faults+if (drain1 m.cells x).2=true then 1 else 0⟩ t=r:=by
  have:=waitsOf_set m t t r ht;rw[if_pos rfl]at this;exact this
 rw[this];simp only[List.set_set]
 congr 1
 cases (drain1 m.cells x).2 <;> simp <;> omega
theorem abs_fence:∀(k:Nat) {m:M},(m.waitsOf t).length=k→WM n code m→t<n→(∀e∈(absM m).buf t,(absM m).here e.a=true)→
  absM (m.fence t)=(absM m).fn t∧(m.fence t).faults=m.faults∧WM n code (m.fence t)∧(m.fence t).T=m.T
 |0,m,hk,W,ht,hb=>by
  have h0:m.waitsOf t=[]:=List.length_eq_zero_iff.1 hk;rw[fence_nil m t h0];refine ⟨?_,rfl,W,rfl⟩;unfold A.fn;rw[show (absM m).buf t=[]from by show (m.waitsOf t).map enOf=[];rw[h0];rfl];rfl
 |k+1,m,hk,W,ht,hb=>by
  obtain ⟨x,r,hx⟩:∃x r,m.waitsOf t=x :: r:=by
   cases e:m.waitsOf t with
   |nil=>rw[e]at hk;simp at hk
   |cons x r=>exact ⟨x,r,rfl⟩
  have hwl:t<m.waits.length:=by rw[W.W];exact ht
  obtain ⟨h1,h2,h3,h4⟩:=abs_drain W ht hb
  have hw:(m.drain t).1.waitsOf t=r:=by
   unfold M.drain;rw[hx];have:=waitsOf_set m t t r hwl;rw[if_pos rfl]at this;exact this
  have hlr:r.length=k:=by rw[hx]at hk;simpa using hk
  obtain ⟨g1,g2,g3,g4⟩:=abs_fence k (m:=(m.drain t).1) (by rw[hw,hlr]) h3 ht (fun e he=>by
   rw[h1]at he ⊢;rw[A.dr_here]
   exact hb e (A.dr_mem he))
  rw[fence_cons m t x r hx hwl];refine ⟨?_,by rw[g2,h2],g3,by rw[g4,h4]⟩;rw[g1,h1]
  have hl:((absM m).buf t).length=k+1:=by show ((m.waitsOf t).map enOf).length=_;rw[List.length_map,hk]
  unfold A.fn;rw[hl,A.dr_buf,if_pos rfl,List.length_tail,hl];rfl
theorem abs_force:∀(k:Nat),k≤n→WM n code m→(∀u,∀e∈(absM m).buf u,(absM m).here e.a=true)→
  absM (m.force k)=(absM m).fo k∧(m.force k).faults=m.faults∧WM n code (m.force k)∧(m.force k).T=m.T
 |0,_,W,_=>⟨rfl,rfl,W,rfl⟩
 |k+1,hk,W,hb=>by
  obtain ⟨h1,h2,h3,h4⟩:=abs_force k (by omega) W hb
  obtain ⟨g1,g2,g3,g4⟩:=abs_fence (t:=k) _ rfl h3 (by omega) (fun e he=>by
   rw[h1]at he ⊢;rw[A.fo_here];rw[A.fo_buf]at he
   split at he
   ·simp at he
   ·exact hb k e he)
  exact ⟨by show absM ((m.force k).fence k)=_;rw[g1,h1];rfl,by show ((m.force k).fence k).faults=_;rw[g2,h2],g3,by show ((m.force k).fence k).T=_;rw[g4,h4]⟩
end Qg
end
section
namespace Qg
open Qs
variable {n t:Nat}{code:Nat→List Instr}{m:M}{c:Nat}
theorem thr_mod(m:M)(f:Thr→Thr)(ht:t<m.T.length)(u:Nat):M.thr {m with T:=m.T.modify t f} u=if u=t then f (m.thr t)else m.thr u:=by
 unfold M.thr;simp only[List.getD,List.getElem?_modify]
 by_cases e:u=t
 ·subst e;simp[List.getElem?_eq_getElem ht]
 ·have e':¬t=u:=fun h=>e h.symm;simp[e,e']
theorem abs_setReg(W:WM n code m)(ht:t<n){a:Int}(ha:a.toNat<8)(v:Int) :
  absM (m.setReg t a v)=(absM m).setR t a.toNat v∧(m.setReg t a v).faults=m.faults∧WM n code (m.setReg t a v):=by
 have hl:t<m.T.length:=by rw[W.T];exact ht
 have h8:=W.regs t ht;have hthr:=fun u=>thr_mod m (fun h=>{h with regs:=h.regs.set a.toNat v}) hl u;refine ⟨A_ext (fun _=>rfl) (fun _ _=>rfl) (fun _=>rfl) (fun u k=>?_) (fun u=>?_),rfl,⟨by simp[M.setReg,W.T],W.W,fun u hu=>?_,fun u hu=>?_,W.words,W.cells,W.wts⟩⟩
 ·show (M.thr {m with T:=m.T.modify t _} u).regs.getD k 0=if u=t∧k=a.toNat then v else (m.thr u).regs.getD k 0
  rw[hthr]
  by_cases e:u=t
  ·subst e;rw[if_pos rfl];simp only[List.getD,List.getElem?_set,true_and]
   by_cases e2:k=a.toNat
   ·subst e2;rw[if_pos rfl,if_pos rfl,if_pos (by omega)];rfl
   ·rw[if_neg e2,if_neg (fun h=>e2 h.symm)]
  ·rw[if_neg e,if_neg (fun h=>e h.1)]
 ·show (M.thr {m with T:=m.T.modify t _} u).pc=(m.thr u).pc;rw[hthr]
  by_cases e:u=t
  ·subst e;rw[if_pos rfl]
  ·rw[if_neg e]
 ·show (M.thr {m with T:=m.T.modify t _} u).code=_;rw[hthr]
  by_cases e:u=t
  ·subst e;rw[if_pos rfl];exact W.code u hu
  ·rw[if_neg e];exact W.code u hu
 ·show (M.thr {m with T:=m.T.modify t _} u).regs.length=_;rw[hthr]
  by_cases e:u=t
  ·subst e;rw[if_pos rfl];simp[h8]
  ·rw[if_neg e];exact W.regs u hu
theorem abs_setPc(W:WM n code m)(ht:t<n)(p:Nat) :
  absM (m.setPc t p)=(absM m).setP t p∧(m.setPc t p).faults=m.faults∧WM n code (m.setPc t p):=by
 have hl:t<m.T.length:=by rw[W.T];exact ht
 have hthr:=fun u=>thr_mod m (fun h=>{h with pc:=p}) hl u;refine ⟨A_ext (fun _=>rfl) (fun _ _=>rfl) (fun _=>rfl) (fun u k=>?_) (fun u=>?_),rfl,⟨by simp[M.setPc,W.T],W.W,fun u hu=>?_,fun u hu=>?_,W.words,W.cells,W.wts⟩⟩
 ·show (M.thr {m with T:=m.T.modify t _} u).regs.getD k 0=(m.thr u).regs.getD k 0;rw[hthr]
  by_cases e:u=t
  ·subst e;rw[if_pos rfl]
  ·rw[if_neg e]
 ·show (M.thr {m with T:=m.T.modify t _} u).pc=if u=t then p else (m.thr u).pc
  rw[hthr]
  by_cases e:u=t
  ·subst e;rw[if_pos rfl,if_pos rfl]
  ·rw[if_neg e,if_neg e]
 ·show (M.thr {m with T:=m.T.modify t _} u).code=_;rw[hthr]
  by_cases e:u=t
  ·subst e;rw[if_pos rfl];exact W.code u hu
  ·rw[if_neg e];exact W.code u hu
 ·show (M.thr {m with T:=m.T.modify t _} u).regs.length=_;rw[hthr]
  by_cases e:u=t
  ·subst e;rw[if_pos rfl];exact W.regs u hu
  ·rw[if_neg e];exact W.regs u hu
theorem abs_write(W:WM n code m){x:Int}(h:(absM m).here x=true){w:Nat}(hw:w<4)(v:Int) :
  absM {m with cells:=setWord m.cells (celOf x) w v} = (absM m).put ⟨x,w,v⟩∧WM n code {m with cells:=setWord m.cells (celOf x) w v}:=
 ⟨abs_setWord W.words h hw v m.waits m.T m.marks m.faults,W.cong rfl W.W (set_words W.words _ _ _) (by simp[setWord]) W.wts⟩
theorem waitsOf_mod(m:M)(t u:Nat)(f:List Wt→List Wt)(ht:t<m.waits.length):M.waitsOf {m with waits:=m.waits.modify t f} u=if u=t then f (m.waitsOf t)else m.waitsOf u:=by
 unfold M.waitsOf;simp only[List.getD,List.getElem?_modify]
 by_cases e:u=t
 ·subst e;simp[List.getElem?_eq_getElem ht]
 ·have e':¬t=u:=fun h=>e h.symm;simp[e,e']
theorem wt_of_here{x:Int}(h:(absM m).here x=true){C v:Int}(hC:0≤C∧C<4):WtOk ⟨(x - 1) % 64,(x - 1)/64,C,v⟩∧enOf ⟨(x - 1) % 64,(x - 1)/64,C,v⟩=⟨x,C.toNat,v⟩:=by
 obtain ⟨h1,h2,_⟩:=abs_here.1 h;refine ⟨⟨?_,?_,?_,?_,?_,?_⟩,?_⟩
 all_goals try (simp only;omega)
 unfold enOf;simp only[En.mk.injEq,and_self,and_true];omega
theorem abs_push(W:WM n code m)(ht:t<n){x C:Int}(h:(absM m).here x=true)(hC:0≤C∧C<4)(v:Int) :
  absM {m with waits:=m.waits.modify t fun l=>l++[⟨(x - 1) % 64,(x - 1)/64,C,v⟩]} = (absM m).setB t ((absM m).buf t++[⟨x,C.toNat,v⟩])∧WM n code {m with waits:=m.waits.modify t fun l=>l++[⟨(x - 1) % 64,(x - 1)/64,C,v⟩]}:=by
 obtain ⟨h1,h2⟩:=wt_of_here h (v:=v) hC
 have hl:t<m.waits.length:=by rw[W.W];exact ht
 have hw:=fun u=>waitsOf_mod m t u (fun l=>l++[⟨(x - 1) % 64,(x - 1)/64,C,v⟩]) hl;refine ⟨A_ext (fun _=>rfl) (fun _ _=>rfl) (fun u=>?_) (fun _ _=>rfl) (fun _=>rfl),W.cong rfl (by simp[W.W]) W.words rfl (fun u z hz=>?_)⟩
 ·show (M.waitsOf _ u).map enOf=if u=t then (m.waitsOf t).map enOf++[⟨x,C.toNat,v⟩]else (m.waitsOf u).map enOf
  rw[hw]
  by_cases e:u=t
  ·rw[if_pos e,if_pos e,List.map_append,List.map_singleton,h2]
  ·rw[if_neg e,if_neg e]
 ·rw[hw]at hz
  split at hz
  ·rcases List.mem_append.1 hz with h|h
   ·exact W.wts t z h
   ·rw[List.mem_singleton.1 h];exact h1
  ·exact W.wts u z hz
theorem abs_free(W:WM n code m){x:Int}(h:(absM m).here x=true) :
  absM {m with cells:=m.cells.modify (celOf x) fun y=>{y with here:=false}} = (absM m).free x∧WM n code {m with cells:=m.cells.modify (celOf x) fun y=>{y with here:=false}}:=by
 obtain ⟨x1,x2,y,x3,x4,x5⟩:=abs_here.1 h
 have hn:∀z,((absM {m with cells:=m.cells.modify (celOf x) fun y=>{y with here:=false}}).here z=true)↔((absM m).here z=true∧z≠x):=fun z=>by
  rw[abs_here,abs_here];simp only[List.getElem?_modify];constructor
  ·rintro ⟨a,b,u,c,d,e⟩
   by_cases e2:celOf x=celOf z
   ·rw[←e2,x3]at c;simp[e2]at c;subst c;simp at d
   ·cases e3:m.cells[celOf z]? with
    |none=>rw[e3]at c;simp at c
    |some q=>rw[e3]at c;simp[e2]at c;subst c;exact ⟨⟨a,b,q,rfl,d,e⟩,fun h=>e2 (by rw[h])⟩
  ·rintro ⟨⟨a,b,u,c,d,e⟩,hne⟩;refine ⟨a,b,u,?_,d,e⟩;have:celOf x≠celOf z:=fun h'=>hne (here_inj (abs_here.2 ⟨a,b,u,c,d,e⟩) h h'.symm);rw[c];simp[this]
 refine ⟨A_ext (fun z=>?_) (fun z u=>?_) (fun _=>rfl) (fun _ _=>rfl) (fun _=>rfl),W.cong rfl W.W (fun c hc=>?_) (by simp) W.wts⟩
 ·have:=hn z
  show (absM _).here z=if z=x then false else (absM m).here z
  by_cases e:z=x
  ·subst e;rw[if_pos rfl]
   cases hb:(absM {m with cells:=m.cells.modify (celOf z) fun y=>{y with here:=false}}).here z with
   |false=>rfl
   |true=>exact absurd rfl (this.1 hb).2
  ·rw[if_neg e,Bool.eq_iff_iff,this];exact ⟨fun h=>h.1,fun h=>⟨h,e⟩⟩
 ·show (absM _).val z u=if z=x then 0 else (absM m).val z u
  by_cases e:z=x
  ·subst e;rw[if_pos rfl,abs_val0 (fun h'=>((hn z).1 h').2 rfl)]
  ·rw[if_neg e]
   by_cases hz:(absM m).here z=true
   ·rw[abs_val ((hn z).2 ⟨hz,e⟩),abs_val hz];unfold getWord;simp only[List.getElem?_modify];have:celOf x≠celOf z:=fun h'=>e (here_inj hz h h'.symm);cases m.cells[celOf z]? <;> simp[this]
   ·rw[abs_val0 hz,abs_val0 (fun h'=>hz ((hn z).1 h').1)]
 ·obtain ⟨i,hi⟩:=List.getElem?_of_mem hc;rw[List.getElem?_modify]at hi
  cases e:m.cells[i]? with
  |none=>rw[e]at hi;simp at hi
  |some q=>
   have hq:=W.words q (List.mem_of_getElem? e);rw[e]at hi
   by_cases e2:celOf x=i
   ·simp[e2]at hi;subst hi;exact hq
   ·simp[e2]at hi;subst hi;exact hq
structure InsP(x:Instr):Prop where
 A:x.A.toNat<8
 C:6≤x.op→x.op≤9→0≤x.C∧x.C<4
 B:x.op≠0→x.B.toNat<8
 B0:x.op≠0→0≤x.B
theorem abs_exec(W:WM n code m)(ht:t<n){x:Instr}(fx:InsP x)(R:(absM m).Req t x)(hb:∀u,∀e∈(absM m).buf u,(absM m).here e.a=true){tg:Nat}(htg:14≤x.op→x.op≤16→labelAt x.to (code t) 0=some tg) :
  absM (m.exec t x)=((absM m).pre n t x).ex t x tg∧(m.exec t x).faults=m.faults∧WM n code (m.exec t x):=by
 obtain ⟨op,xa,xb,xc,to⟩:=x;obtain ⟨hA,hC,hB,hB0⟩:=fx;simp only at hA hC hB hB0 htg;have hthr:=W.code t ht
 match op,hC,hB,hB0,htg,R with
 |0,hC,hB,hB0,htg,R=>exact abs_setReg W ht hA xb
 |1,hC,hB,hB0,htg,R=>exact abs_setReg W ht hA _
 |2,hC,hB,hB0,htg,R=>exact abs_setReg W ht hA _
 |3,hC,hB,hB0,htg,R=>exact abs_setReg W ht hA _
 |4,hC,hB,hB0,htg,R=>exact abs_setReg W ht hA _
 |5,hC,hB,hB0,htg,R=>exact abs_setReg W ht hA _
 |6,hC,hB,hB0,htg,R=>
  have R:(absM m).here ((absM m).reg t xb.toNat)=true:=R;have e:=abs_names R;have hc:=hC (by omega) (by omega);unfold M.exec;simp only[Thr.reg];rw[show (m.thr t).regs.getD xb.toNat 0=(absM m).reg t xb.toNat from rfl,e];simp only
  have hv:look (m.waitsOf t) (((absM m).reg t xb.toNat - 1) % 64) (((absM m).reg t xb.toNat - 1)/64) xc (getWord m.cells (((absM m).reg t xb.toNat - 1) % 64).toNat xc.toNat)=(absM m).vw t ((absM m).reg t xb.toNat) xc.toNat:=by
   rw[look_lk _ (W.wts t) _ (abs_here.1 R).1 _ hc.1];unfold A.vw;rw[abs_val R];rfl
  rw[hv];exact abs_setReg W ht hA _
 |7,hC,hB,hB0,htg,R=>
  have R:(absM m).here ((absM m).reg t xa.toNat)=true:=R;have e:=abs_names R;have hc:=hC (by omega) (by omega);unfold M.exec;simp only[Thr.reg];rw[show (m.thr t).regs.getD xa.toNat 0=(absM m).reg t xa.toNat from rfl,show (m.thr t).regs.getD xb.toNat 0=(absM m).reg t xb.toNat from rfl,e];simp only
  have hlen:((absM m).buf t).length=(m.waitsOf t).length:=by show ((m.waitsOf t).map enOf).length=_;rw[List.length_map]
  unfold A.pre A.ex;simp only;rw[hlen]
  by_cases h8:(m.waitsOf t).length≥8
  ·rw[if_pos h8,if_pos h8];obtain ⟨d1,d2,d3,d4⟩:=abs_drain W ht (hb t)
   have hr:(absM (m.drain t).1).here ((absM m).reg t xa.toNat)=true:=by rw[d1,A.dr_here];exact R
   obtain ⟨p1,p2⟩:=abs_push d3 ht hr hc ((absM m).reg t xb.toNat);refine ⟨?_,d2,p2⟩;rw[p1,d1,A.dr_reg]
  ·rw[if_neg h8,if_neg h8];obtain ⟨p1,p2⟩:=abs_push W ht R hc ((absM m).reg t xb.toNat);exact ⟨p1,rfl,p2⟩
 |8,hC,hB,hB0,htg,R=>
  have R:(absM m).here ((absM m).reg t xb.toNat)=true:=R;have e:=abs_names R;have hc:=hC (by omega) (by omega);unfold M.exec;simp only[Thr.reg];rw[show (m.thr t).regs.getD xa.toNat 0=(absM m).reg t xa.toNat from rfl,show (m.thr t).regs.getD xb.toNat 0=(absM m).reg t xb.toNat from rfl,e];simp only
  obtain ⟨d1,d2,d3,d4⟩:=abs_fence _ rfl W ht (hb t)
  have hr:(absM (m.fence t)).here ((absM m).reg t xb.toNat)=true:=by rw[d1,A.fn_here];exact R
  obtain ⟨p1,p2⟩:=abs_write d3 hr (w:=xc.toNat) (by omega) ((absM m).reg t xa.toNat);obtain ⟨q1,q2,q3⟩:=abs_setReg p2 ht hA (getWord (m.fence t).cells (celOf ((absM m).reg t xb.toNat)) xc.toNat);refine ⟨?_,by rw[←d2];exact q2,q3⟩
  show absM (M.setReg {m.fence t with cells:=setWord (m.fence t).cells (celOf ((absM m).reg t xb.toNat)) xc.toNat ((absM m).reg t xa.toNat)} t xa (getWord (m.fence t).cells (celOf ((absM m).reg t xb.toNat)) xc.toNat))=_;rw[q1,p1,←abs_val hr,d1];unfold A.pre A.ex;simp only[A.fn_reg]
 |9,hC,hB,hB0,htg,R=>
  have R:(absM m).here ((absM m).reg t xa.toNat)=true:=R;have e:=abs_names R;have hc:=hC (by omega) (by omega);unfold M.exec;simp only[Thr.reg];simp only[show ∀k,(m.thr t).regs.getD k 0=(absM m).reg t k from fun _=>rfl,e];obtain ⟨d1,d2,d3,d4⟩:=abs_fence _ rfl W ht (hb t)
  have hr:(absM (m.fence t)).here ((absM m).reg t xa.toNat)=true:=by rw[d1,A.fn_here];exact R
  obtain ⟨p1,p2⟩:=abs_write d3 hr (w:=xc.toNat) (by omega) ((absM m).reg t (xb+1).toNat)
  have hv:getWord (m.fence t).cells (((absM m).reg t xa.toNat - 1) % 64).toNat xc.toNat=((absM m).fn t).val ((absM m).reg t xa.toNat) xc.toNat:=by
   rw[←d1];exact (abs_val hr _).symm
  rw[hv];unfold A.pre A.ex;simp only[A.fn_reg]
  by_cases h9:((absM m).fn t).val ((absM m).reg t xa.toNat) xc.toNat=(absM m).reg t xb.toNat
  ·rw[if_pos h9,if_pos h9];obtain ⟨q1,q2,q3⟩:=abs_setReg p2 ht (a:=xb) (hB (by omega)) (((absM m).fn t).val ((absM m).reg t xa.toNat) xc.toNat);refine ⟨?_,by rw[←d2];exact q2,q3⟩
   show absM (M.setReg {m.fence t with cells:=setWord (m.fence t).cells (celOf ((absM m).reg t xa.toNat)) xc.toNat ((absM m).reg t (xb+1).toNat)} t xb _)=_;rw[q1,p1,d1]
  ·rw[if_neg h9,if_neg h9];obtain ⟨q1,q2,q3⟩:=abs_setReg d3 ht (a:=xb) (hB (by omega)) (((absM m).fn t).val ((absM m).reg t xa.toNat) xc.toNat);refine ⟨?_,by rw[←d2];exact q2,q3⟩;rw[q1,d1]
 |10,hC,hB,hB0,htg,R=>exact absurd R (fun h=>h)
 |11,hC,hB,hB0,htg,R=>
  have R:(absM m).here ((absM m).reg t xa.toNat)=true:=R;have e:=abs_names R;unfold M.exec;simp only[Thr.reg];rw[show (m.thr t).regs.getD xa.toNat 0=(absM m).reg t xa.toNat from rfl,e];simp only;obtain ⟨d1,d2,d3,d4⟩:=abs_fence _ rfl W ht (hb t)
  have hr:(absM (m.fence t)).here ((absM m).reg t xa.toNat)=true:=by rw[d1,A.fn_here];exact R
  obtain ⟨p1,p2⟩:=abs_free d3 hr;refine ⟨?_,d2,p2⟩;show absM {m.fence t with cells:=(m.fence t).cells.modify (celOf ((absM m).reg t xa.toNat)) fun y=>{y with here:=false}} = _;rw[p1,d1];unfold A.pre A.ex;simp only[A.fn_reg]
 |12,hC,hB,hB0,htg,R=>
  obtain ⟨d1,d2,d3,d4⟩:=abs_fence _ rfl W ht (hb t);exact ⟨d1,d2,d3⟩
 |13,hC,hB,hB0,htg,R=>
  obtain ⟨d1,d2,d3,d4⟩:=abs_force n (Nat.le_refl _) W hb;show absM (m.force m.T.length)=_∧(m.force m.T.length).faults=_∧WM n code (m.force m.T.length);rw[W.T];exact ⟨d1,d2,d3⟩
 |14,hC,hB,hB0,htg,R=>
  have h:=htg (by omega) (by omega);have hp:=abs_setPc W ht tg;unfold M.exec;simp only[Thr.reg,M.jump,hthr,h,Option.getD_some];unfold A.pre A.ex;simp only;rw[show (m.thr t).regs.getD xa.toNat 0=(absM m).reg t xa.toNat from rfl]
  by_cases h0:(absM m).reg t xa.toNat=0
  ·rw[if_pos h0,if_pos h0];exact hp
  ·rw[if_neg h0,if_neg h0];exact ⟨rfl,rfl,W⟩
 |15,hC,hB,hB0,htg,R=>
  have h:=htg (by omega) (by omega);have hp:=abs_setPc W ht tg;unfold M.exec;simp only[Thr.reg,M.jump,hthr,h,Option.getD_some];unfold A.pre A.ex;simp only;rw[show (m.thr t).regs.getD xa.toNat 0=(absM m).reg t xa.toNat from rfl,show (m.thr t).regs.getD xb.toNat 0=(absM m).reg t xb.toNat from rfl]
  by_cases h0:(absM m).reg t xa.toNat=(absM m).reg t xb.toNat
  ·rw[if_pos h0,if_pos h0];exact hp
  ·rw[if_neg h0,if_neg h0];exact ⟨rfl,rfl,W⟩
 |16,hC,hB,hB0,htg,R=>
  have h:=htg (by omega) (by omega);have hp:=abs_setPc W ht tg;unfold M.exec;simp only[Thr.reg,M.jump,hthr,h,Option.getD_some];exact hp
 |17,hC,hB,hB0,htg,R=>exact ⟨rfl,rfl,W⟩
 |18,hC,hB,hB0,htg,R=>exact absurd R (fun h=>h)
 |19,hC,hB,hB0,htg,R=>
  have R:¬(absM m).reg t xa.toNat=0:=R;unfold M.exec;simp only[Thr.reg];simp only[show ∀k,(m.thr t).regs.getD k 0=(absM m).reg t k from fun _=>rfl,if_neg R];exact ⟨rfl,trivial,W⟩
 |20,hC,hB,hB0,htg,R=>exact absurd R (fun h=>h)
 |k+21,hC,hB,hB0,htg,R=>exact ⟨rfl,rfl,W⟩
end Qg
end
section
namespace Qg
open Qs
variable {n t:Nat}{code:Nat→List Instr}{m:M}{c:Nat}
def tms(m:M):List Int:=m.cells.map (·.times)
theorem tms_mod(l:List Cell)(c:Nat)(f:Cell→Cell)(hf:∀x,(f x).times=x.times):(l.modify c f).map (·.times)=l.map (·.times):=by
 apply List.ext_getElem?;intro i;rw[List.getElem?_map,List.getElem?_map,List.getElem?_modify]
 cases l[i]? with
 |none=>rfl
 |some x=>by_cases e:c=i <;> simp[e,hf]
theorem tms_set(l:List Cell)(c w:Nat)(v:Int):(setWord l c w v).map (·.times)=l.map (·.times):=tms_mod l c _ fun _=>rfl
theorem tms_drain1(l:List Cell)(x:Wt):(drain1 l x).1.map (·.times)=l.map (·.times):=by
 unfold drain1
 split
 ·exact tms_set _ _ _ _
 ·rfl
theorem tms_drainAll:∀(r:List Wt) (l:List Cell),(drainAll l r).1.map (·.times)=l.map (·.times)
 |[],l=>rfl
 |x :: r,l=>by
  show (drainAll (drain1 l x).1 r).1.map _=_;rw[tms_drainAll r,tms_drain1]
theorem tms_fence(m:M)(t:Nat):tms (m.fence t)=tms m:=tms_drainAll _ _
theorem tms_force(m:M):∀k,tms (m.force k)=tms m
 |0=>rfl
 |k+1=>by show tms ((m.force k).fence k)=_;rw[tms_fence,tms_force m k]
theorem tms_drain(m:M)(t:Nat):tms (m.drain t).1=tms m:=by
 unfold M.drain
 split
 ·rfl
 ·exact tms_drain1 _ _
theorem tms_exec(m:M)(t:Nat)(x:Instr)(h:x.op≠10):tms (m.exec t x)=tms m:=by
 have hf:=tms_fence m t;unfold M.exec;simp only
 split
 all_goals first
  |rfl
  |(exfalso;apply h;assumption)
  |(split <;> first
    |rfl
    |exact hf
    |(show (setWord _ _ _ _).map _=_;rw[tms_set];exact hf)
    |exact (tms_mod (m.fence t).cells _ (fun y=>{y with here:=false}) (fun _=>rfl)).trans hf
    |(split <;> first|rfl|exact tms_drain m t|exact hf|(show (setWord _ _ _ _).map _=_;rw[tms_set];exact hf))
    |(show tms (if _ then (m.drain t).1 else m)=_;split <;> first|rfl|exact tms_drain m t))
  |exact hf
  |exact tms_force m _
theorem allocAt_none:∀(l:List Cell) (i:Nat),allocAt l i=none→∀c∈l,c.here=true
 |[],_,_,c,hc=>by simp at hc
 |x :: r,i,h,c,hc=>by
  unfold allocAt at h
  split at h
  ·rename_i hx
   rcases List.mem_cons.1 hc with rfl|h2
   ·exact hx
   ·exact allocAt_none r _ h c h2
  ·cases h
theorem allocAt_some:∀(l:List Cell) (i:Nat) {k:Nat} {n:Int},allocAt l i=some (k,n)→i≤k∧∃y,l[k - i]?=some y∧y.here=false∧y.times=n
 |[],_,_,_,h=>by cases h
 |x :: r,i,k,n,h=>by
  unfold allocAt at h
  split at h
  ·obtain ⟨h1,y,h2,h3,h4⟩:=allocAt_some r _ h;refine ⟨by omega,y,?_,h3,h4⟩;rw[show k - i=(k - (i+1))+1 from by omega];exact h2
  ·rename_i hx
   simp only[Option.some.injEq,Prod.mk.injEq]at h;obtain ⟨rfl,rfl⟩:=h;refine ⟨Nat.le_refl _,x,by simp,by simpa using hx,rfl⟩
def HokL(l:List Cell):Prop:=∀c∈l,c.here=true→1≤c.times
theorem hok_mod{l:List Cell}(h:HokL l)(c:Nat)(f:Cell→Cell)(hf:∀x,(f x).here=true→x.here=true∧(f x).times=x.times):HokL (l.modify c f):=by
 intro y hy;obtain ⟨i,hi⟩:=List.getElem?_of_mem hy;rw[List.getElem?_modify]at hi
 cases e:l[i]? with
 |none=>rw[e]at hi;simp at hi
 |some q=>
  have hq:=h q (List.mem_of_getElem? e);rw[e]at hi
  by_cases e2:c=i
  ·simp[e2]at hi;subst hi;intro hh;rw[(hf q hh).2];exact hq (hf q hh).1
  ·simp[e2]at hi;subst hi;exact hq
theorem hok_set{l:List Cell}(h:HokL l)(c w:Nat)(v:Int):HokL (setWord l c w v):=hok_mod h c _ fun _ hh=>⟨hh,rfl⟩
theorem hok_drain1{l:List Cell}(h:HokL l)(x:Wt):HokL (drain1 l x).1:=by
 unfold drain1
 split
 ·exact hok_set h _ _ _
 ·exact h
theorem hok_drainAll:∀(r:List Wt) {l:List Cell},HokL l→HokL (drainAll l r).1
 |[],l,h=>h
 |x :: r,l,h=>hok_drainAll r (hok_drain1 h x)
theorem hok_fence(m:M)(t:Nat)(h:HokL m.cells):HokL (m.fence t).cells:=hok_drainAll _ h
theorem hok_force(m:M)(h:HokL m.cells):∀k,HokL (m.force k).cells
 |0=>h
 |k+1=>hok_fence (m.force k) k (hok_force m h k)
theorem hok_drain(m:M)(t:Nat)(h:HokL m.cells):HokL (m.drain t).1.cells:=by
 unfold M.drain
 split
 ·exact h
 ·exact hok_drain1 h _
theorem hok_exec(m:M)(t:Nat)(x:Instr)(hN:∀v∈tms m,0≤v)(h:HokL m.cells):HokL (m.exec t x).cells:=by
 have hf:=hok_fence m t h;unfold M.exec;simp only
 split
 all_goals first
  |exact h
  |(split <;> first
    |exact h
    |exact hf
    |exact hok_set hf _ _ _
    |exact hok_mod hf _ _ (fun _ hh=>by simp at hh)
    |(split <;> first|exact h|exact hok_drain m t h|exact hf|exact hok_set hf _ _ _)
    |(show HokL (M.cells (if _ then (m.drain t).1 else m));split <;> first|exact h|exact hok_drain m t h)
    | (rename_i i n e
       intro c hc;have hc':c∈m.cells.set i ⟨[0,0,0,0],n+1,true⟩:=hc
       rcases List.mem_or_eq_of_mem_set hc' with h1|h1
       ·exact h c h1
       ·intro _;obtain ⟨_,y,hy,_,hyt⟩:=allocAt_some _ _ e;have:=hN n (by rw[←hyt];exact List.mem_map.2 ⟨y,List.mem_of_getElem? hy,rfl⟩)
        rw[h1];simp only;omega))
  |exact hf
  |exact hok_force m h _
theorem abs_alloc(W:WM n code m)(ht:t<n){xa:Int}(hA:xa.toNat<8)(hf:∃c∈m.cells,c.here=false){N:Int}(hN:∀v∈tms m,0≤v∧v≤N)(hN2:N<60000000)(B C:Int)(to:List UInt8) :
  ∃na,0<na∧(absM m).here na=false∧absM (m.exec t ⟨10,xa,B,C,to⟩)=((absM m).give na).setR t xa.toNat na∧(m.exec t ⟨10,xa,B,C,to⟩).faults=m.faults∧WM n code (m.exec t ⟨10,xa,B,C,to⟩)∧(∀v∈tms (m.exec t ⟨10,xa,B,C,to⟩),0≤v∧v≤N+1)∧(m.exec t ⟨10,xa,B,C,to⟩).cells.length=m.cells.length:=by
 cases e:allocAt m.cells 0 with
 |none=>
  obtain ⟨c,hc,hc2⟩:=hf;rw[allocAt_none _ _ e c hc]at hc2;cases hc2
 |some p=>
  obtain ⟨k,g⟩:=p;obtain ⟨_,y,hy,hyh,hyt⟩:=allocAt_some _ _ e;rw[Nat.sub_zero]at hy;have hk:k<m.cells.length:=(List.getElem?_eq_some_iff.1 hy).1
  have hk64:k<64:=by have:=W.cells;omega
  have hg:=hN g (by rw[←hyt];exact List.mem_map.2 ⟨y,List.mem_of_getElem? hy,rfl⟩)
  have hw:wordOf (k:Int) g=g*64+k+1:=by
   unfold wordOf isWord;rw[if_pos ⟨by omega,by omega,by omega,by omega,by simp[W32];omega⟩]
  obtain ⟨na,hna⟩:∃na,na=g*64+(k:Int)+1:=⟨_,rfl⟩
  have hcel:celOf na=k:=by unfold celOf;omega
  have hgen:(na - 1)/64=g:=by omega
  have hnh:(absM m).here na=false:=by
   cases hb:(absM m).here na with
   |false=>rfl
   |true=>
    obtain ⟨_,_,u,hu,hu2,_⟩:=abs_here.1 hb;rw[hcel,hy]at hu;cases hu;rw[hyh]at hu2;cases hu2
  have W':WM n code {m with cells:=m.cells.set k ⟨[0,0,0,0],g+1,true⟩}:=W.cong rfl W.W (fun c hc=>by
   rcases List.mem_or_eq_of_mem_set hc with h|h
   ·exact W.words c h
   ·rw[h];rfl) (by simp) W.wts
  have hh:∀z,(absM {m with cells:=m.cells.set k ⟨[0,0,0,0],g+1,true⟩}).here z=true↔(z=na∨(absM m).here z=true):=fun z=>by
   rw[abs_here,abs_here];simp only[List.getElem?_set];constructor
   ·rintro ⟨a,b,u,c,d,f⟩
    by_cases e2:k=celOf z
    ·rw[if_pos e2,if_pos hk]at c;cases c;left;unfold celOf at e2;simp only at f;omega
    ·rw[if_neg e2]at c;exact .inr ⟨a,b,u,c,d,f⟩
   ·rintro (rfl|⟨a,b,u,c,d,f⟩)
    ·refine ⟨by omega,by omega,⟨[0,0,0,0],g+1,true⟩,?_,rfl,by simp only;omega⟩;rw[if_pos hcel.symm,if_pos hk]
    ·refine ⟨a,b,u,?_,d,f⟩
     have:k≠celOf z:=fun h=>by rw[←h,hy]at c;cases c;rw[hyh]at d;cases d
     rw[if_neg this,c]
  have hex:m.exec t ⟨10,xa,B,C,to⟩=M.setReg {m with cells:=m.cells.set k ⟨[0,0,0,0],g+1,true⟩} t xa (wordOf (k:Int) g):=by
   unfold M.exec;simp only[e]
  obtain ⟨q1,q2,q3⟩:=abs_setReg W' ht hA (wordOf (k:Int) g);refine ⟨na,by omega,hnh,?_,by rw[hex,q2],by rw[hex];exact q3,fun v hv=>?_,by rw[hex];show (m.cells.set _ _).length=_;simp⟩
  ·rw[hex,q1,hw,←hna]
   congr 1
   refine A_ext (fun z=>?_) (fun z w=>?_) (fun _=>rfl) (fun _ _=>rfl) (fun _=>rfl)
   ·show _=if z=na then true else (absM m).here z
    by_cases e2:z=na
    ·rw[if_pos e2];exact (hh z).2 (.inl e2)
    ·rw[if_neg e2,Bool.eq_iff_iff,hh];exact ⟨fun h=>h.resolve_left e2,.inr⟩
   ·show _=if z=na then 0 else (absM m).val z w
    by_cases e2:z=na
    ·rw[if_pos e2,abs_val ((hh z).2 (.inl e2)),e2];unfold getWord;rw[hcel];simp only[List.getElem?_set,if_true,if_pos hk,Option.map_some,Option.getD_some]
     match w with
     |0=>rfl
     |1=>rfl
     |2=>rfl
     |3=>rfl
     |w+4=>rfl
    ·rw[if_neg e2]
     by_cases hz:(absM m).here z=true
     ·rw[abs_val ((hh z).2 (.inr hz)),abs_val hz];unfold getWord
      have:k≠celOf z:=fun h=>by
       obtain ⟨_,_,u,hu,hu2,_⟩:=abs_here.1 hz;rw[←h,hy]at hu;cases hu;rw[hyh]at hu2;cases hu2
      simp only[List.getElem?_set,if_neg this]
     ·rw[abs_val0 hz,abs_val0 (fun h=>hz (((hh z).1 h).resolve_left e2))]
  ·rw[hex]at hv;have hv':v∈(m.cells.set k ⟨[0,0,0,0],g+1,true⟩).map (·.times):=hv;obtain ⟨c,hc,rfl⟩:=List.mem_map.1 hv'
   rcases List.mem_or_eq_of_mem_set hc with h|h
   ·have:=hN c.times (List.mem_map.2 ⟨c,h,rfl⟩);omega
   ·rw[h];simp only;omega
theorem pigeon:∀(k:Nat) (l:List Nat),(∀i,i<k→i∈l)→k≤l.length
 |0,_,_=>Nat.zero_le _
 |k+1,l,h=>by
  have hk:k∈l:=h k (by omega);have:=pigeon k (l.erase k) fun i hi=>(List.mem_erase_of_ne (by omega)).2 (h i (by omega));have hl:=List.length_erase_of_mem hk;have:0<l.length:=List.length_pos_of_mem hk;omega
theorem free_cell{l:List Int}(h:∀x,(absM m).here x=true→x∈l)(hl:l.length<m.cells.length)(hw:HokL m.cells)(hw2:∀c∈m.cells,c.times<60000000)(h64:m.cells.length≤64):∃c∈m.cells,c.here=false:=by
 refine Classical.byContradiction fun hno=>?_
 have hall:∀c∈m.cells,c.here=true:=fun c hc=>by
  cases e:c.here with
  |true=>rfl
  |false=>exact absurd ⟨c,hc,e⟩ hno
 have:=pigeon m.cells.length (l.map celOf) fun i hi=>by
  obtain ⟨y,hy⟩:∃y,m.cells[i]?=some y:=⟨_,List.getElem?_eq_getElem hi⟩;have hm:=List.mem_of_getElem? hy;have h1:=hall y hm;have h2:=hw y hm h1;have h3:=hw2 y hm;refine List.mem_map.2 ⟨(y.times - 1)*64+i+1,h _ (abs_here.2 ⟨by omega,by omega,y,?_,h1,by omega⟩),by unfold celOf;omega⟩
  have:celOf ((y.times - 1)*64+i+1)=i:=by unfold celOf;omega
  rw[this,hy]
 rw[List.length_map]at this;omega
end Qg
end
section
namespace Qu
open Qs Qg
inductive Op where
 |put (n:Int)
 |take
inductive Pos where
 |fin
 |pu (o:Nat) (n:Int) (r:List Int)
 |ta (o:Nat) (r:List Int)
deriving DecidableEq
end Qu
end
section
namespace Qu
open Qs Qg
structure Lab(lab:Nat→List UInt8):Prop where
 inj:∀i j,lab i=lab j→i=j
 dot:∀j,¬46∈lab j
theorem Lab.ne{lab:Nat→List UInt8}(h:Lab lab)(i j:Nat)(c:UInt8):lab i++[46,c]≠lab j:=fun g=>h.dot j (by rw[←g];simp)
section
variable (e p:List UInt8)
end
variable {lab:Nat→List UInt8}
end Qu
end
section
namespace Qg
open Qs
inductive Pos where
 |fin
 |cl (c d:Nat)
 |ent (d j:Nat)
 |lea (d j:Nat)
 |jh (d j:Nat)
 |jc (j:Nat)
 |jk (d:Nat)
 |dead
 |tk (k j:Nat)
 |gv (k j:Nat)
 |wb
 |wn (s:Bool) (j:Nat)
 |wx (s:Bool) (j:Nat)
 |we
 |rs (j:Nat)
 |gn (j:Nat)
 |ca (j:Nat)
 |cs (j:Nat)
 |cx (j:Nat)
 |cr (j:Nat)
deriving DecidableEq
def barOp(f:Nat):Nat:=if f=2 then 13 else 12
def insOf(f:Nat):Pos→Option (Nat × Int × Int × Int)
 |.ent _ 0=>some (6,0,6,0)
 |.ent _ 1=>some (0,1,255,0)
 |.ent _ 2=>some (4,1,0,1)
 |.ent _ 3=>some (14,1,0,0)
 |.ent _ 4=>some (0,1,1,0)
 |.ent _ 5=>some (2,0,0,1)
 |.ent _ 6=>some (7,6,0,0)
 |.ent _ 7=>some (16,0,0,0)
 |.ent _ 8=>some (17,0,0,0)
 |.ent _ 9=>some (6,0,7,0)
 |.ent _ 10=>some (7,6,0,0)
 |.ent _ 11=>some (12,0,0,0)
 |.ent _ 12=>some (17,0,0,0)
 |.lea _ 0=>some (12,0,0,0)
 |.lea _ 1=>some (6,0,6,0)
 |.lea _ 2=>some (0,1,1,0)
 |.lea _ 3=>some (3,0,0,1)
 |.lea _ 4=>some (7,6,0,0)
 |.jh _ 0=>some (6,0,6,2)
 |.jh _ 1=>some (14,0,0,0)
 |.jh _ 2=>some (16,0,0,0)
 |.jh _ 3=>some (17,0,0,0)
 |.jc 0=>some (6,0,7,2)
 |.jc 1=>some (7,6,0,1)
 |.jc 2=>some (7,7,6,2)
 |.jc 3=>some (0,0,1,0)
 |.jc 4=>some (7,6,0,2)
 |.jk _=>some (17,0,0,0)
 |.tk _ 0=>some (17,0,0,0)
 |.tk _ 1=>some (0,0,0,0)
 |.tk _ 2=>some (0,1,1,0)
 |.tk _ 3=>some (9,7,0,1)
 |.tk _ 4=>some (14,0,0,0)
 |.tk _ 5=>some (16,0,0,0)
 |.tk _ 6=>some (17,0,0,0)
 |.gv _ 0=>some (0,0,0,0)
 |.gv _ 1=>some (7,7,0,1)
 |.gv _ 2=>some (12,0,0,0)
 |.wb=>some (barOp f,0,0,0)
 |.we=>some (barOp f,0,0,0)
 |.wn _ 0=>some (6,0,7,0)
 |.wn _ 1=>some (0,1,256,0)
 |.wn _ 2=>some (5,0,0,1)
 |.wn _ 3=>some (7,7,0,0)
 |.wn _ 4=>some (barOp f,0,0,0)
 |.wn _ 5=>some (6,2,7,2)
 |.wn _ 6=>some (17,0,0,0)
 |.wn _ 7=>some (14,2,0,0)
 |.wx _ 8=>some (17,0,0,0)
 |.wx _ 9=>some (6,0,2,0)
 |.wx _ 10=>some (0,1,255,0)
 |.wx _ 11=>some (4,1,0,1)
 |.wx _ 12=>some (14,1,0,0)
 |.wx _ 13=>some (6,1,7,0)
 |.wx _ 14=>some (5,1,0,1)
 |.wx _ 15=>some (0,0,256,0)
 |.wx _ 16=>some (4,1,1,0)
 |.wx _ 17=>some (14,1,0,0)
 |.wx _ 18=>some (16,0,0,0)
 |.wx _ 19=>some (17,0,0,0)
 |.wx _ 20=>some (6,2,2,1)
 |.wn _ 21=>some (16,0,0,0)
 |.wn _ 22=>some (17,0,0,0)
 |.rs 0=>some (6,0,7,0)
 |.rs 1=>some (7,6,0,0)
 |.rs 2=>some (12,0,0,0)
 |.gn 0=>some (0,0,0,0)
 |.gn 1=>some (7,6,0,0)
 |.gn 2=>some (12,0,0,0)
 |.ca 0=>some (0,0,0,0)
 |.ca 1=>some (7,6,0,0)
 |.ca 2=>some (12,0,0,0)
 |.cs 0=>some (6,0,7,0)
 |.cs 1=>some (0,1,2,0)
 |.cs 2=>some (2,0,0,1)
 |.cs 3=>some (7,7,0,0)
 |.cs 4=>some (12,0,0,0)
 |.cs 5=>some (6,2,7,2)
 |.cs 6=>some (17,0,0,0)
 |.cs 7=>some (14,2,0,0)
 |.cx 8=>some (17,0,0,0)
 |.cx 9=>some (6,0,2,0)
 |.cx 10=>some (14,0,0,0)
 |.cx 11=>some (6,1,7,0)
 |.cx 12=>some (15,0,1,0)
 |.cx 13=>some (16,0,0,0)
 |.cx 14=>some (17,0,0,0)
 |.cx 15=>some (6,2,2,1)
 |.cs 16=>some (16,0,0,0)
 |.cs 17=>some (17,0,0,0)
 |.cr 0=>some (6,0,7,0)
 |.cr 1=>some (7,6,0,0)
 |.cr 2=>some (12,0,0,0)
 |_=>none
def fallOf(f:Nat):Pos→Option Pos
 |.ent d 10=>some (.ent d (if f=2 then 12 else 11))
 |.ent _ 12=>none
 |.ent d j=>some (.ent d (j+1))
 |.lea _ 4=>none
 |.lea d j=>some (.lea d (j+1))
 |.jh _ 3=>some (.tk 0 0)
 |.jh d j=>some (.jh d (j+1))
 |.jc 4=>some (.gv 0 0)
 |.jc j=>some (.jc (j+1))
 |.jk d=>some (.ent d 0)
 |.tk 0 6=>some (.jc 0)
 |.tk 1 6=>some (.wn false 0)
 |.tk 2 6=>some (.cs 0)
 |.tk k j=>some (.tk k (j+1))
 |.gv 0 2=>some (.jk 0)
 |.gv 1 2=>none
 |.gv 2 2=>some (.cr 0)
 |.gv k j=>some (.gv k (j+1))
 |.wb=>some (.tk 1 0)
 |.wn false 22=>some (.wn true 0)
 |.wn true 22=>some .we
 |.wn s 7=>some (.wx s 8)
 |.wn s j=>some (.wn s (j+1))
 |.wx s 20=>some (.wn s 21)
 |.wx s j=>some (.wx s (j+1))
 |.we=>some (.gv 1 0)
 |.rs 2=>none
 |.rs j=>some (.rs (j+1))
 |.gn 2=>none
 |.gn j=>some (.gn (j+1))
 |.ca 2=>some (.tk 2 0)
 |.ca j=>some (.ca (j+1))
 |.cs 17=>some (.gv 2 0)
 |.cs 7=>some (.cx 8)
 |.cs j=>some (.cs (j+1))
 |.cx 15=>some (.cs 16)
 |.cx j=>some (.cx (j+1))
 |.cr 2=>none
 |.cr j=>some (.cr (j+1))
 |_=>none
def tgtOf:Pos→Pos
 |.ent d 3=>.ent d 8
 |.ent d 7=>.ent d 12
 |.jh d 1=>if d=0 then .jh 0 3 else .dead
 |.jh d 2=>.jk d
 |.tk k 4=>.tk k 6
 |.tk k 5=>.tk k 0
 |.wn s 7=>.wn s 22
 |.wx s 12=>.wx s 19
 |.wx s 17=>.wx s 19
 |.wx s 18=>.wx s 8
 |.wn s 21=>.wn s 6
 |.cs 7=>.cs 17
 |.cx 10=>.cx 14
 |.cx 12=>.cx 14
 |.cx 13=>.cx 8
 |.cs 16=>.cs 6
 |p=>p
def dOut:Pos→Nat
 |.ent d _=>d+1
 |.lea d _=>d - 1
 |_=>0
def startD(f:Nat):Pos→Option Nat
 |.fin=>some 0
 |.cl _ d=>some d
 |.ent d 0=>if f=1∨f=2 then some d else none
 |.jh d 0=>if f=4 then some d else none
 |.lea d 0=>if (f=1∨f=4)∧0<d then some d else none
 |.lea d 1=>if f=2∧0<d then some d else none
 |.wb=>if f=3 then none else some 0
 |.rs 0=>if f=3 then some 0 else none
 |.gn 0=>if f=3 then some 0 else none
 |.ca 0=>if f=3 then some 0 else none
 |_=>none
end Qg
end
section
namespace Qg
open Qs
structure Cx where
 f:Nat
 n:Nat
 hub:Int
 own:Nat→Int
 ne:∀t,own t≠hub
 inj:∀t u,own t=own u→t=u
 f1:1≤f
 f4:f≤4
variable (X:Cx)
def Cx.gr(x:Int):Prop:=x=X.hub∨∃t,t<X.n∧x=X.own t
def cnt:Pos→Nat
 |.cl _ d=>d
 |.ent d j=>if j=7∨j=11∨j=12 then d+1 else d
 |.lea d _=>d
 |.jh d _=>d
 |.jk d=>d
 |_=>0
def inS:Pos→Prop
 |.cl _ d=>0<d
 |.ent d j=>0<d∨j=12
 |.lea d _=>0<d
 |.jh d _=>0<d
 |.jk d=>0<d
 |_=>False
def inL:Pos→Prop
 |.cl _ d=>0<d
 |.ent _ _=>True
 |.lea d _=>0<d
 |.jh d j=>0<d∨j=2
 |.jk _=>True
 |_=>False
def Has(rg:Nat→Int)(bf:List En):Pos→Prop
 |.tk _ 4=>rg 0=0
 |.tk _ 6=>True
 |.jc _=>True
 |.gv _ 2=>bf≠[]
 |.gv _ _=>True
 |.wn _ _=>True
 |.wx _ _=>True
 |.we=>True
 |.cs _=>True
 |.cx _=>True
 |_=>False
def phi(h v:Int):Prop:=v % 256≠0∧v/256=h/256
def v512(v:Int):Prop:=0≤v∧v<512
def lt3(V v:Int):Prop:=1≤v∧v<V
def Cx.Prot(s:A)(r:Nat)(φ : Int→Prop):Prop:=φ (s.val (X.own r) 0)∧∀e∈s.buf r,e.a=X.own r→e.w=0→φ e.v
def Cx.Ch(vl:Int→Nat→Int):Int→List Nat→Prop
 |x,[]=>x=0
 |x,r :: l=>x=X.own r∧r<X.n∧Cx.Ch vl (vl (X.own r) 1) l
def Cx.sq(t:Nat)(F:Int):List En:=[⟨X.own t,1,F⟩,⟨X.hub,2,X.own t⟩,⟨X.own t,2,1⟩,⟨X.hub,1,0⟩]
def Cx.JS(bf:List En)(vl:Int→Nat→Int)(L:List Nat)(t j:Nat):Prop:=
 ∃i F,i≤j∧bf=((X.sq t F).take j).drop i∧(i<2→¬t∈L∧vl X.hub 2=F)∧(1≤i→i<2→vl (X.own t) 1=F)∧(2≤i→t∈L)∧(i<3→vl (X.own t) 2=0)∧(3≤i→vl (X.own t) 2≠0)
def Td(PR:Nat→(Int→Prop)→Prop)(sg:Bool)(H:Int)(r:Nat):Prop:=if sg then PR r (phi (258 - H))else PR r (phi 1)∨PR r (phi 257)
def Ps(PR:Nat→(Int→Prop)→Prop)(sg:Bool)(H:Int)(r:Nat):Prop:=if sg then False else PR r (phi H)
def LocA(rg:Nat→Int)(v:Int)(bf:List En):Pos→Prop
 |.ent d 0=>d<100
 |.ent d 1=>rg 0=v∧d<100
 |.ent d 2=>rg 0=v∧rg 1=255∧d<100
 |.ent d 3=>rg 0=v∧rg 1=d∧d<100
 |.ent d 4=>rg 0=v∧0<d∧d<100
 |.ent d 5=>rg 0=v∧rg 1=1∧0<d∧d<100
 |.ent d 6=>rg 0=v+1∧0<d∧d<100
 |.ent d 7=>0<d
 |.ent d 8=>d=0
 |.ent d 9=>d=0
 |.ent d 10=>d=0∧(rg 0=1∨rg 0=257)
 |.ent d 11=>d=0
 |.ent d 12=>True
 |.ent _ _=>False
 |.lea d 0=>0<d
 |.lea d 1=>0<d
 |.lea d 2=>0<d∧rg 0=v
 |.lea d 3=>0<d∧rg 0=v∧rg 1=1
 |.lea d 4=>0<d∧rg 0=v - 1
 |.lea _ _=>False
 |.jh d _=>d<100
 |.jk d=>d<100
 |.dead=>False
 |.tk k 0=>k≠0→bf=[]
 |.tk k 1=>k≠0→bf=[]
 |.tk k 2=>(k≠0→bf=[])∧rg 0=0
 |.tk k 3=>(k≠0→bf=[])∧rg 0=0∧rg 1=1
 |.tk k 4=>bf=[]
 |.tk k 5=>bf=[]
 |.tk k 6=>bf=[]
 |.tk _ _=>False
 |.rs j=>j<3
 |.gn j=>j<3
 |.ca j=>j<3
 |.cr j=>j<3
 |_=>True
def LocC(rg:Nat→Int)(v h0:Int)(bf:List En)(own:Int):Pos→Prop
 |.rs 1=>1≤rg 0∧rg 0≤h0
 |.rs 2=>∀e∈bf,e.a=own→1≤e.v∧e.v≤h0
 |.cr 0=>bf=[]
 |.cr 1=>bf=[]∧1≤rg 0∧rg 0≤h0
 |.cr 2=>(∃v',bf=[⟨own,0,v'⟩]∧1≤v'∧v'≤h0)∨(bf=[]∧1≤v∧v≤h0)
 |_=>True
section
variable (rg:Nat→Int)(bf:List En)(vl:Int→Nat→Int)(PR:Nat→(Int→Prop)→Prop)(old:Nat→Prop)(L:List Nat)(t:Nat)
def LJh(d j:Nat):Prop:=(j=1→(rg 0≠0↔t∈L))∧(j=3→¬t∈L∧d=0)∧j<4
def Cx.LTk(k:Nat):Prop:=(k=0→¬t∈L∧X.f=4)∧(k=1→X.f≠3∧∀r,r<X.n→old r→Td PR false 1 r)∧(k=2→X.f=3)∧k<3
def Cx.LJc:Nat→Prop
 |0=>X.f=4∧X.JS bf vl L t 0
 |1=>X.f=4∧X.JS bf vl L t 0∧rg 0=vl X.hub 2
 |2=>X.f=4∧X.JS bf vl L t 1
 |3=>X.f=4∧X.JS bf vl L t 2
 |4=>X.f=4∧X.JS bf vl L t 2∧rg 0=1
 |_=>False
def Cx.LGv0:Nat→Prop
 |0=>X.f=4∧X.JS bf vl L t 3
 |1=>X.f=4∧X.JS bf vl L t 3∧rg 0=0
 |2=>X.f=4∧X.JS bf vl L t 4
 |_=>False
def Cx.LGv(k j:Nat):Prop:=(k=1∧X.f≠3∨k=2∧X.f=3)∧(∀r,r<X.n→¬old r)∧(j<2→bf=[])∧(j=1→rg 0=0)∧(j=2→bf=[⟨X.hub,1,0⟩]∨bf=[])∧j<3
def Cx.LWn(g:Bool):Nat→Prop
 |0=>bf=[]∧∀r,r<X.n→old r→Td PR g (258 - vl X.hub 0) r
 |1=>bf=[]∧rg 0=vl X.hub 0∧∀r,r<X.n→old r→Td PR g (258 - vl X.hub 0) r
 |2=>bf=[]∧rg 0=vl X.hub 0∧rg 1=256∧∀r,r<X.n→old r→Td PR g (258 - vl X.hub 0) r
 |3=>bf=[]∧rg 0=258 - vl X.hub 0∧∀r,r<X.n→old r→Td PR g (258 - vl X.hub 0) r
 |4=>∃V,(V=1∨V=257)∧(bf=[⟨X.hub,0,V⟩]∨bf=[]∧vl X.hub 0=V)∧∀r,r<X.n→old r→Td PR g V r
 |5=>bf=[]∧∀r,r<X.n→old r→Td PR g (vl X.hub 0) r
 |6=>bf=[]∧∃l,X.Ch vl (rg 2) l∧∀r,r<X.n→old r→(r∈l∧Td PR g (vl X.hub 0) r)∨Ps PR g (vl X.hub 0) r
 |7=>bf=[]∧∃l,X.Ch vl (rg 2) l∧∀r,r<X.n→old r→(r∈l∧Td PR g (vl X.hub 0) r)∨Ps PR g (vl X.hub 0) r
 |21=>bf=[]∧∃l,X.Ch vl (rg 2) l∧∀r,r<X.n→old r→(r∈l∧Td PR g (vl X.hub 0) r)∨Ps PR g (vl X.hub 0) r
 |22=>bf=[]∧∀r,r<X.n→old r→Ps PR g (vl X.hub 0) r
 |_=>False
def LWxj(H:Int)(x:Nat):Nat→Prop
 |8=>True
 |9=>True
 |10=>v512 (rg 0)∧(old x→rg 0 % 256≠0∧PR x (phi (rg 0)))
 |11=>v512 (rg 0)∧rg 1=255∧(old x→rg 0 % 256≠0∧PR x (phi (rg 0)))
 |12=>v512 (rg 0)∧rg 1=rg 0 % 256∧(old x→rg 0 % 256≠0∧PR x (phi (rg 0)))
 |13=>v512 (rg 0)∧(old x→rg 0 % 256≠0∧PR x (phi (rg 0)))
 |14=>v512 (rg 0)∧rg 1=H∧(old x→rg 0 % 256≠0∧PR x (phi (rg 0)))
 |15=>∃v,v512 v∧rg 1=sum2 5 v H∧(old x→PR x (phi v))
 |16=>rg 0=256∧∃v,v512 v∧rg 1=sum2 5 v H∧(old x→PR x (phi v))
 |17=>rg 1=0→old x→PR x (phi H)
 |18=>True
 |_=>False
def Cx.LWx(g:Bool)(j:Nat):Prop:=
 bf=[]∧∃x l,x<X.n∧rg 2=X.own x∧X.Ch vl (vl (X.own x) 1) l∧
  ((j<19∧(∀r,r<X.n→old r→((r=x∨r∈l)∧Td PR g (vl X.hub 0) r)∨Ps PR g (vl X.hub 0) r)∧LWxj rg PR old (vl X.hub 0) x j)∨
   ((j=19∨j=20)∧∀r,r<X.n→old r→(r∈l∧Td PR g (vl X.hub 0) r)∨Ps PR g (vl X.hub 0) r))
def Cx.LCs:Nat→Prop
 |0=>bf=[]
 |1=>bf=[]∧rg 0=vl X.hub 0
 |2=>bf=[]∧rg 0=vl X.hub 0∧rg 1=2
 |3=>bf=[]∧rg 0=vl X.hub 0+2
 |4=>∃V,(bf=[⟨X.hub,0,V⟩]∧V=vl X.hub 0+2∨bf=[]∧vl X.hub 0=V)∧∀r,r<X.n→old r→PR r (lt3 V)
 |5=>bf=[]∧∀r,r<X.n→old r→PR r (lt3 (vl X.hub 0))
 |6=>bf=[]∧∃l,X.Ch vl (rg 2) l∧∀r,r<X.n→old r→r∈l∧PR r (lt3 (vl X.hub 0))
 |7=>bf=[]∧∃l,X.Ch vl (rg 2) l∧∀r,r<X.n→old r→r∈l∧PR r (lt3 (vl X.hub 0))
 |16=>bf=[]∧∃l,X.Ch vl (rg 2) l∧∀r,r<X.n→old r→r∈l∧PR r (lt3 (vl X.hub 0))
 |17=>bf=[]∧∀r,r<X.n→¬old r
 |_=>False
def Cx.LCx(j:Nat):Prop:=
 bf=[]∧∃x l,x<X.n∧rg 2=X.own x∧X.Ch vl (vl (X.own x) 1) l∧
  ((j<14∧∀r,r<X.n→old r→(r=x∨r∈l)∧PR r (lt3 (vl X.hub 0)))∨((j=14∨j=15)∧∀r,r<X.n→old r→r∈l∧PR r (lt3 (vl X.hub 0))))∧
  (10≤j→j≤12→old x→lt3 (vl X.hub 0) (rg 0))∧(j=12→rg 1=vl X.hub 0)
def Cx.LocB:Pos→Prop
 |.ent _ _=>X.f≠3
 |.lea _ _=>X.f≠3
 |.jh d j=>X.f=4∧LJh rg L t d j
 |.jk _=>X.f=4
 |.wb=>X.f≠3
 |.rs _=>X.f=3
 |.gn _=>X.f=3
 |.ca _=>X.f=3
 |.cr _=>X.f=3∧∀r,r<X.n→¬old r
 |.tk k _=>X.LTk PR old L t k
 |.jc j=>X.LJc rg bf vl L t j
 |.gv k j=>if k=0 then X.LGv0 rg bf vl L t j else X.LGv rg bf old k j
 |.wn g j=>X.f≠3∧X.LWn rg bf vl PR old g j
 |.wx g j=>X.f≠3∧X.LWx rg bf vl PR old g j
 |.we=>X.f≠3∧bf=[]∧∀r,r<X.n→¬old r
 |.cs j=>X.f=3∧X.LCs rg bf vl PR old j
 |.cx j=>X.f=3∧X.LCx rg bf vl PR old j
 |_=>True
end
def ok3:Pos→Prop
 |.cl _ _=>True
 |.rs _=>True
 |.gn 0=>True
 |.ca 0=>True
 |_=>False
def wait3:Pos→Prop
 |.rs 2=>True
 |.gn 2=>True
 |.ca 2=>True
 |.cr 2=>True
 |_=>False
def joining:Pos→Prop
 |.jc _=>True
 |.gv 0 _=>True
 |_=>False
structure Th(s:A)(old:Nat→Nat→Prop)(L:List Nat)(t:Nat)(p:Pos):Prop where
 r6:s.reg t 6=X.own t
 r7:s.reg t 7=X.hub
 buf:¬Has (s.reg t) (s.buf t) p→∀e∈s.buf t,X.gr e.a→e.a=X.own t∧e.w=0
 vw:X.f≠3→s.vw t (X.own t) 0 % 256=cnt p
 rng:X.f≠3→X.Prot s t v512
 sec:X.f≠3→X.f≠2→inS p→X.Prot s t (phi 1)∨X.Prot s t (phi 257)
 il:X.f=4→inL p→t∈L
 nb:X.f=3→¬wait3 p→¬Has (s.reg t) (s.buf t) p→∀e∈s.buf t,¬X.gr e.a
 ok:X.f=3→ok3 p→1≤s.val (X.own t) 0∧s.val (X.own t) 0≤s.val X.hub 0
 a:LocA (s.reg t) (s.vw t (X.own t) 0) (s.buf t) p
 c:X.f=3→LocC (s.reg t) (s.vw t (X.own t) 0) (s.val X.hub 0) (s.buf t) (X.own t) p
 b:X.LocB (s.reg t) (s.buf t) s.val (X.Prot s) (old t) L t p
structure Core(s:A)(p:Nat→Pos)(old:Nat→Nat→Prop)(L:List Nat)(B:Int):Prop where
 th:∀t,t<X.n→Th X s old L t (p t)
 lock:(s.val X.hub 1=0∧∀t,t<X.n→¬Has (s.reg t) (s.buf t) (p t))∨∃h,h<X.n∧Has (s.reg h) (s.buf h) (p h)∧s.val X.hub 1=1∧∀t,t<X.n→t≠h→¬Has (s.reg t) (s.buf t) (p t)
 h0:X.f≠3→s.val X.hub 0=1∨s.val X.hub 0=257
 h3:X.f=3→1≤s.val X.hub 0∧s.val X.hub 0≤B
 hb3:X.f=3→∀t,t<X.n→∀e∈s.buf t,e.a=X.hub→e.w=0→e.v≤B
 ch:X.Ch s.val (s.val X.hub 2) L
 all:X.f≠4→∀t,t<X.n→t∈L
 j:X.f=4→∀t,t<X.n→¬joining (p t)→(t∈L↔s.val (X.own t) 2≠0)
 old:∀t r,t<X.n→r<X.n→old t r→∃c d,p r=.cl c d∧0<d
end Qg
end
section
namespace Qg
open Qs
variable {X:Cx}{rg:Nat→Int}{bf:List En}{vl vl':Int→Nat→Int}{PR PR':Nat→(Int→Prop)→Prop}{old old':Nat→Prop}{L L':List Nat}{t:Nat}{p:Pos}
theorem Td.mono{g:Bool}{H:Int}{r:Nat}(h:∀ φ,PR r φ→PR' r φ)(hd:Td PR g H r):Td PR' g H r:=by
 unfold Td at *;cases g
 ·rcases hd with hd|hd
  ·exact .inl (h _ hd)
  ·exact .inr (h _ hd)
 ·exact h _ hd
theorem Ps.mono{g:Bool}{H:Int}{r:Nat}(h:∀ φ,PR r φ→PR' r φ)(hd:Ps PR g H r):Ps PR' g H r:=by
 unfold Ps at *;cases g
 ·exact h _ hd
 ·exact hd
theorem Ch.mono(h:∀r,r<X.n→vl' (X.own r) 1=vl (X.own r) 1):∀ {l:List Nat} {x:Int},X.Ch vl x l→X.Ch vl' x l
 |[],x,hc=>hc
 |r :: l,x,hc=>⟨hc.1,hc.2.1,by rw[h r hc.2.1];exact Ch.mono h hc.2.2⟩
theorem JS.mono{j:Nat}(h:X.JS bf vl L t j)(hL:t∈L'↔t∈L)(hown:∀w,vl' (X.own t) w=vl (X.own t) w)(h2:vl' X.hub 2=vl X.hub 2∨bf=[]∧j=4):X.JS bf vl' L' t j:=by
 obtain ⟨i,F,h1,hb,ha,hc,hd,he,hf⟩:=h;refine ⟨i,F,h1,hb,fun hi=>?_,fun a b=>by rw[hown];exact hc a b,fun a=>hL.2 (hd a),fun a=>by rw[hown];exact he a,fun a=>by rw[hown];exact hf a⟩;obtain ⟨g1,g2⟩:=ha hi;refine ⟨fun e=>g1 (hL.1 e),?_⟩
 rcases h2 with h2|⟨h2,h4⟩
 ·rw[h2];exact g2
 ·exfalso;subst h4;rw[h2]at hb;have:=congrArg List.length hb;simp[Cx.sq]at this;omega
theorem LocB.mono(h:X.LocB rg bf vl PR old L t p)(ho:∀r,r<X.n→old' r→old r)(hq:∀r φ,r<X.n→old' r→PR r φ→PR' r φ)(hL:t∈L'↔t∈L)(hown:∀w,vl' (X.own t) w=vl (X.own t) w)
  (hlock:Has rg bf p→vl' X.hub 0=vl X.hub 0∧vl' X.hub 2=vl X.hub 2∧∀r,r<X.n→vl' (X.own r) 1=vl (X.own r) 1):X.LocB rg bf vl' PR' old' L' t p:=by
 have hTd:∀(g:Bool) (H:Int) (r:Nat),r<X.n→old' r→Td PR g H r→Td PR' g H r:=fun g H r hr ho' hd=>hd.mono fun φ=>hq r φ hr ho';have hPs:∀(g:Bool) (H:Int) (r:Nat),r<X.n→old' r→Ps PR g H r→Ps PR' g H r:=fun g H r hr ho' hd=>hd.mono fun φ=>hq r φ hr ho'
 cases p with
 |fin=>trivial
 |cl c d=>trivial
 |ent d j=>exact h
 |lea d j=>exact h
 |jh d j=>exact ⟨h.1,fun e=>(h.2.1 e).trans hL.symm,fun e=>⟨fun a=>(h.2.2.1 e).1 (hL.1 a),(h.2.2.1 e).2⟩,h.2.2.2⟩
 |jk d=>exact h
 |dead=>trivial
 |wb=>exact h
 |rs j=>exact h
 |gn j=>exact h
 |ca j=>exact h
 |cr j=>exact ⟨h.1,fun r hr e=>h.2 r hr (ho r hr e)⟩
 |tk k j=>exact ⟨fun e=>⟨fun a=>(h.1 e).1 (hL.1 a),(h.1 e).2⟩,fun e=>⟨(h.2.1 e).1,fun r hr ho'=>hTd _ _ r hr ho' ((h.2.1 e).2 r hr (ho r hr ho'))⟩,h.2.2⟩
 |jc j=>
  obtain ⟨e0,e2,e1⟩:=hlock trivial;have hj:∀i,X.JS bf vl L t i→X.JS bf vl' L' t i:=fun i hi=>JS.mono hi hL hown (.inl e2);unfold Cx.LocB at h ⊢;simp only at h ⊢
  match j,h with
  |0,h=>exact ⟨h.1,hj _ h.2⟩
  |1,h=>exact ⟨h.1,hj _ h.2.1,by rw[e2];exact h.2.2⟩
  |2,h=>exact ⟨h.1,hj _ h.2⟩
  |3,h=>exact ⟨h.1,hj _ h.2⟩
  |4,h=>exact ⟨h.1,hj _ h.2.1,h.2.2⟩
  |j+5,h=>exact h.elim
 |gv k j=>
  unfold Cx.LocB at h ⊢;simp only at h ⊢
  by_cases hk:k=0
  ·rw[if_pos hk]at h ⊢;have hj:∀i,vl' X.hub 2=vl X.hub 2∨bf=[]∧i=4→X.JS bf vl L t i→X.JS bf vl' L' t i:=fun i h2 hi=>JS.mono hi hL hown h2
   match j,h,hlock with
   |0,h,hlock=>exact ⟨h.1,hj _ (.inl (hlock trivial).2.1) h.2⟩
   |1,h,hlock=>exact ⟨h.1,hj _ (.inl (hlock trivial).2.1) h.2.1,h.2.2⟩
   |2,h,hlock=>
    refine ⟨h.1,hj _ ?_ h.2⟩
    by_cases hb:bf=[]
    ·exact .inr ⟨hb,rfl⟩
    ·exact .inl (hlock hb).2.1
   |j+3,h,_=>exact h.elim
  ·rw[if_neg hk]at h ⊢;exact ⟨h.1,fun r hr e=>h.2.1 r hr (ho r hr e),h.2.2⟩
 |wn g j=>
  obtain ⟨e0,e2,e1⟩:=hlock trivial;have hc:=fun (l:List Nat) (x:Int) (h:X.Ch vl x l)=>Ch.mono e1 h;refine ⟨h.1,?_⟩;replace h:=h.2
  match j,h with
  |0,h=>exact ⟨h.1,fun r hr ho'=>by rw[e0];exact hTd _ _ r hr ho' (h.2 r hr (ho r hr ho'))⟩
  |1,h=>exact ⟨h.1,by rw[e0];exact h.2.1,fun r hr ho'=>by rw[e0];exact hTd _ _ r hr ho' (h.2.2 r hr (ho r hr ho'))⟩
  |2,h=>exact ⟨h.1,by rw[e0];exact h.2.1,h.2.2.1,fun r hr ho'=>by rw[e0];exact hTd _ _ r hr ho' (h.2.2.2 r hr (ho r hr ho'))⟩
  |3,h=>exact ⟨h.1,by rw[e0];exact h.2.1,fun r hr ho'=>by rw[e0];exact hTd _ _ r hr ho' (h.2.2 r hr (ho r hr ho'))⟩
  |4,h=>
   obtain ⟨V,hV,hb,hT⟩:=h;exact ⟨V,hV,by rw[e0];exact hb,fun r hr ho'=>hTd _ _ r hr ho' (hT r hr (ho r hr ho'))⟩
  |5,h=>exact ⟨h.1,fun r hr ho'=>by rw[e0];exact hTd _ _ r hr ho' (h.2 r hr (ho r hr ho'))⟩
  |6,h=>
   obtain ⟨hb,l,hl,hT⟩:=h;refine ⟨hb,l,hc _ _ hl,fun r hr ho'=>?_⟩;rw[e0]
   rcases hT r hr (ho r hr ho')with ⟨a,b⟩|a
   ·exact .inl ⟨a,hTd _ _ r hr ho' b⟩
   ·exact .inr (hPs _ _ r hr ho' a)
  |7,h=>
   obtain ⟨hb,l,hl,hT⟩:=h;refine ⟨hb,l,hc _ _ hl,fun r hr ho'=>?_⟩;rw[e0]
   rcases hT r hr (ho r hr ho')with ⟨a,b⟩|a
   ·exact .inl ⟨a,hTd _ _ r hr ho' b⟩
   ·exact .inr (hPs _ _ r hr ho' a)
  |21,h=>
   obtain ⟨hb,l,hl,hT⟩:=h;refine ⟨hb,l,hc _ _ hl,fun r hr ho'=>?_⟩;rw[e0]
   rcases hT r hr (ho r hr ho')with ⟨a,b⟩|a
   ·exact .inl ⟨a,hTd _ _ r hr ho' b⟩
   ·exact .inr (hPs _ _ r hr ho' a)
  |22,h=>exact ⟨h.1,fun r hr ho'=>by rw[e0];exact hPs _ _ r hr ho' (h.2 r hr (ho r hr ho'))⟩
  |8,h=>exact h.elim
  |9,h=>exact h.elim
  |10,h=>exact h.elim
  |11,h=>exact h.elim
  |12,h=>exact h.elim
  |13,h=>exact h.elim
  |14,h=>exact h.elim
  |15,h=>exact h.elim
  |16,h=>exact h.elim
  |17,h=>exact h.elim
  |18,h=>exact h.elim
  |19,h=>exact h.elim
  |20,h=>exact h.elim
  |j+23,h=>exact h.elim
 |wx g j=>
  obtain ⟨e0,e2,e1⟩:=hlock trivial;obtain ⟨h3,hb,x,l,hx,hr2,hl,hT⟩:=h
  have hxj:LWxj rg PR old (vl X.hub 0) x j→LWxj rg PR' old' (vl X.hub 0) x j:=fun h=>by
   have hp:∀v,(old x→rg 0 % 256≠0∧PR x (phi v))→(old' x→rg 0 % 256≠0∧PR' x (phi v)):=fun v hh ho'=>⟨(hh (ho x hx ho')).1,hq x _ hx ho' (hh (ho x hx ho')).2⟩;have hp2:∀v,(old x→PR x (phi v))→(old' x→PR' x (phi v)):=fun v hh ho'=>hq x _ hx ho' (hh (ho x hx ho'))
   match j,h with
   |8,h=>trivial
   |9,h=>trivial
   |10,h=>exact ⟨h.1,hp _ h.2⟩
   |11,h=>exact ⟨h.1,h.2.1,hp _ h.2.2⟩
   |12,h=>exact ⟨h.1,h.2.1,hp _ h.2.2⟩
   |13,h=>exact ⟨h.1,hp _ h.2⟩
   |14,h=>exact ⟨h.1,h.2.1,hp _ h.2.2⟩
   |15,h=>obtain ⟨v,h1,h2,h3⟩:=h;exact ⟨v,h1,h2,hp2 _ h3⟩
   |16,h=>obtain ⟨h0,v,h1,h2,h3⟩:=h;exact ⟨h0,v,h1,h2,hp2 _ h3⟩
   |17,h=>exact fun e=>hp2 _ (h e)
   |18,h=>trivial
   |0,h=>exact h.elim
   |1,h=>exact h.elim
   |2,h=>exact h.elim
   |3,h=>exact h.elim
   |4,h=>exact h.elim
   |5,h=>exact h.elim
   |6,h=>exact h.elim
   |7,h=>exact h.elim
   |j+19,h=>exact h.elim
  refine ⟨h3,hb,x,l,hx,hr2,by rw[e1 x hx];exact Ch.mono e1 hl,?_⟩;rw[e0]
  rcases hT with ⟨h1,h2,h3⟩|⟨h1,h2⟩
  ·refine .inl ⟨h1,fun r hr ho'=>?_,hxj h3⟩
   rcases h2 r hr (ho r hr ho')with ⟨a,b⟩|a
   ·exact .inl ⟨a,hTd _ _ r hr ho' b⟩
   ·exact .inr (hPs _ _ r hr ho' a)
  ·refine .inr ⟨h1,fun r hr ho'=>?_⟩
   rcases h2 r hr (ho r hr ho')with ⟨a,b⟩|a
   ·exact .inl ⟨a,hTd _ _ r hr ho' b⟩
   ·exact .inr (hPs _ _ r hr ho' a)
 |we=>exact ⟨h.1,h.2.1,fun r hr e=>h.2.2 r hr (ho r hr e)⟩
 |cs j=>
  obtain ⟨e0,e2,e1⟩:=hlock trivial;refine ⟨h.1,?_⟩;replace h:=h.2
  have hl6:(∃l,X.Ch vl (rg 2) l∧∀r,r<X.n→old r→r∈l∧PR r (lt3 (vl X.hub 0)))→∃l,X.Ch vl' (rg 2) l∧∀r,r<X.n→old' r→r∈l∧PR' r (lt3 (vl' X.hub 0)):=by
   rintro ⟨l,hl,hT⟩;refine ⟨l,Ch.mono e1 hl,fun r hr ho'=>?_⟩;rw[e0];obtain ⟨a,b⟩:=hT r hr (ho r hr ho');exact ⟨a,hq r _ hr ho' b⟩
  match j,h with
  |0,h=>exact h
  |1,h=>exact ⟨h.1,by rw[e0];exact h.2⟩
  |2,h=>exact ⟨h.1,by rw[e0];exact h.2.1,h.2.2⟩
  |3,h=>exact ⟨h.1,by rw[e0];exact h.2⟩
  |4,h=>
   obtain ⟨V,hV,hT⟩:=h;exact ⟨V,by rw[e0];exact hV,fun r hr ho'=>hq r _ hr ho' (hT r hr (ho r hr ho'))⟩
  |5,h=>exact ⟨h.1,fun r hr ho'=>by rw[e0];exact hq r _ hr ho' (h.2 r hr (ho r hr ho'))⟩
  |6,h=>exact ⟨h.1,hl6 h.2⟩
  |7,h=>exact ⟨h.1,hl6 h.2⟩
  |16,h=>exact ⟨h.1,hl6 h.2⟩
  |17,h=>exact ⟨h.1,fun r hr e=>h.2 r hr (ho r hr e)⟩
  |8,h=>exact h.elim
  |9,h=>exact h.elim
  |10,h=>exact h.elim
  |11,h=>exact h.elim
  |12,h=>exact h.elim
  |13,h=>exact h.elim
  |14,h=>exact h.elim
  |15,h=>exact h.elim
  |j+18,h=>exact h.elim
 |cx j=>
  obtain ⟨e0,e2,e1⟩:=hlock trivial;obtain ⟨h3,hb,x,l,hx,hr2,hl,hT,h6,h7⟩:=h;refine ⟨h3,hb,x,l,hx,hr2,by rw[e1 x hx];exact Ch.mono e1 hl,?_,fun a b c=>by rw[e0];exact h6 a b (ho x hx c),by rw[e0];exact h7⟩;rw[e0]
  rcases hT with ⟨h1,h2⟩|⟨h1,h2⟩
  ·exact .inl ⟨h1,fun r hr ho'=>⟨(h2 r hr (ho r hr ho')).1,hq r _ hr ho' (h2 r hr (ho r hr ho')).2⟩⟩
  ·exact .inr ⟨h1,fun r hr ho'=>⟨(h2 r hr (ho r hr ho')).1,hq r _ hr ho' (h2 r hr (ho r hr ho')).2⟩⟩
end Qg
end
section
namespace Qg
open Qs
variable {X:Cx}{s s':A}{p:Nat→Pos}{old old':Nat→Nat→Prop}{L L':List Nat}{B:Int}{t u:Nat}
theorem lk1_cons(e:En)(l:List En)(x:Int)(w:Nat)(v:Int):lk1 (e :: l) x w v=lk1 l x w (if e.a=x∧e.w=w then e.v else v):=rfl
theorem lk1_snoc(e:En)(l:List En)(x:Int)(w:Nat)(v:Int):lk1 (l++[e]) x w v=if e.a=x∧e.w=w then e.v else lk1 l x w v:=by
 unfold lk1;rw[List.foldl_append];rfl
theorem lk1_all{φ : Int→Prop}{x:Int}{w:Nat}:∀ {l:List En} {v:Int},φ v→(∀e∈l,e.a=x→e.w=w→φ e.v)→φ (lk1 l x w v)
 |[],v,h,_=>h
 |e :: l,v,h,hl=>by
  rw[lk1_cons];refine lk1_all ?_ fun e' he=>hl e' (by simp[he])
  split
  ·rename_i h2;exact hl e (by simp) h2.1 h2.2
  ·exact h
theorem lk1_none{x:Int}{w:Nat}:∀ {l:List En} {v:Int},(∀e∈l,e.a=x→e.w≠w)→lk1 l x w v=v
 |[],v,_=>rfl
 |e :: l,v,hl=>by
  rw[lk1_cons,if_neg (fun h2=>hl e (by simp) h2.1 h2.2)];exact lk1_none fun e' he=>hl e' (by simp[he])
theorem Prot.vw{φ : Int→Prop}(h:X.Prot s t φ) : φ (s.vw t (X.own t) 0):=lk1_all h.1 h.2
theorem Prot.imp{φ ψ : Int→Prop}(h:X.Prot s t φ)(g:∀v,φ v→ψ v):X.Prot s t ψ:=⟨g _ h.1,fun e he a b=>g _ (h.2 e he a b)⟩
theorem Prot.same(hb:s'.buf t=s.buf t)(hv:s'.val (X.own t) 0=s.val (X.own t) 0){φ : Int→Prop}(h:X.Prot s t φ):X.Prot s' t φ:=by
 unfold Cx.Prot at *;rw[hb,hv];exact h
theorem LocC.mono{rg:Nat→Int}{v h0 h0':Int}{bf:List En}{own:Int}{p:Pos}(h:LocC rg v h0 bf own p)(hh:h0≤h0'):LocC rg v h0' bf own p:=by
 unfold LocC at h ⊢
 split at h
 ·omega
 ·intro e he ha;have:=h e he ha;omega
 ·exact h
 ·exact ⟨h.1,h.2.1,by omega⟩
 ·rcases h with ⟨v',h1,h2,h3⟩|⟨h1,h2,h3⟩
  ·exact .inl ⟨v',h1,h2,by omega⟩
  ·exact .inr ⟨h1,h2,by omega⟩
 ·trivial
theorem Th.mono{p:Pos}(h:Th X s old L u p)(hr:s'.reg u=s.reg u)(hb:s'.buf u=s.buf u)(hown:∀w,s'.val (X.own u) w=s.val (X.own u) w)
  (h3:X.f=3→s.val X.hub 0≤s'.val X.hub 0)
  (hlock:Has (s.reg u) (s.buf u) p→s'.val X.hub 0=s.val X.hub 0∧s'.val X.hub 2=s.val X.hub 2∧∀r,r<X.n→s'.val (X.own r) 1=s.val (X.own r) 1)
  (ho:∀r,r<X.n→old' u r→old u r) (hq:∀r φ,r<X.n→old' u r→X.Prot s r φ→X.Prot s' r φ) (hL:u∈L'↔u∈L):Th X s' old' L' u p:=by
 have hvw:s'.vw u (X.own u) 0=s.vw u (X.own u) 0:=by unfold A.vw;rw[hb,hown]
 refine ⟨by rw[hr];exact h.r6,by rw[hr];exact h.r7,by rw[hr,hb];exact h.buf,fun f=>by rw[hvw];exact h.vw f,fun f=>Prot.same hb (hown 0) (h.rng f),fun f g e=>?_,fun f e=>hL.2 (h.il f e),by rw[hr,hb];exact h.nb,fun f e=>?_,by rw[hr,hb,hvw];exact h.a,fun f=>by rw[hr,hb,hvw];exact (h.c f).mono (h3 f),?_⟩
 ·rcases h.sec f g e with h|h
  ·exact .inl (Prot.same hb (hown 0) h)
  ·exact .inr (Prot.same hb (hown 0) h)
 ·rw[hown];have:=h.ok f e;have:=h3 f;omega
 ·rw[hr,hb];exact LocB.mono h.b ho hq hL hown hlock
def upd(p:Nat→Pos)(t:Nat)(q:Pos):Nat→Pos:=fun u=>if u=t then q else p u
theorem upd_same(p:Nat→Pos)(t:Nat)(q:Pos):upd p t q t=q:=if_pos rfl
theorem upd_ne(p:Nat→Pos){t u:Nat}(q:Pos)(h:u≠t):upd p t q u=p u:=if_neg h
theorem Core.move(C:Core X s p old L B)(ht:t<X.n)(q:Pos)(e1:∀u,u≠t→s'.reg u=s.reg u)(e2:∀u,u≠t→s'.buf u=s.buf u)(e3:s'.val=s.val)
  (hcl:∀c d,p t≠.cl c d) (hhas:Has (s'.reg t) (s'.buf t) q↔Has (s.reg t) (s.buf t) (p t)) (hj:X.f=4→¬joining q→(t∈L↔s.val (X.own t) 2≠0))
  (h3:X.f=3→∀e∈s'.buf t,e.a=X.hub→e.w=0→e.v≤B) (hth:Th X s' old L t q):Core X s' (upd p t q) old L B:=by
 have hno:∀u,u<X.n→¬old u t:=fun u hu ho=>by
  obtain ⟨c,d,h,_⟩:=C.old u t hu ht ho;exact hcl c d h
 refine ⟨fun u hu=>?_,?_,by rw[e3];exact C.h0,by rw[e3];exact C.h3,fun f u hu=>?_,by rw[e3];exact C.ch,C.all,fun f u hu hju=>?_,fun a r ha hr ho=>?_⟩
 ·by_cases e:u=t
  ·subst e;rw[upd_same];exact hth
  ·rw[upd_ne _ _ e];refine (C.th u hu).mono (e1 u e) (e2 u e) (fun w=>by rw[e3]) (fun _=>by rw[e3];exact Int.le_refl _) (fun _=>by rw[e3];exact ⟨rfl,rfl,fun _ _=>rfl⟩) (fun r hr h=>h) (fun r φ hr ho h=>?_) Iff.rfl
   by_cases e4:r=t
   ·rw[e4]at ho;exact absurd ho (hno u hu)
   ·exact Prot.same (e2 r e4) (by rw[e3]) h
 ·have hH:∀u,u<X.n→(Has (s'.reg u) (s'.buf u) (upd p t q u)↔Has (s.reg u) (s.buf u) (p u)):=fun u hu=>by
   by_cases e:u=t
   ·subst e;rw[upd_same];exact hhas
   ·rw[upd_ne _ _ e,e1 u e,e2 u e]
  rw[e3]
  rcases C.lock with ⟨h1,h2⟩|⟨h,h1,h2,h3,h4⟩
  ·exact .inl ⟨h1,fun u hu e=>h2 u hu ((hH u hu).1 e)⟩
  ·exact .inr ⟨h,h1,(hH h h1).2 h2,h3,fun u hu hne e=>h4 u hu hne ((hH u hu).1 e)⟩
 ·by_cases e:u=t
  ·subst e;exact h3 f
  ·rw[e2 u e];exact C.hb3 f u hu
 ·rw[e3]
  by_cases e:u=t
  ·subst e;rw[upd_same]at hju;exact hj f hju
  ·rw[upd_ne _ _ e]at hju;exact C.j f u hu hju
 ·obtain ⟨c,d,h1,h2⟩:=C.old a r ha hr ho;refine ⟨c,d,?_,h2⟩;rw[upd_ne p q (fun e:r=t=>hcl c d (by rw[←e];exact h1))];exact h1
theorem Core.up(C:Core X s p old L B){B':Int}(h:B≤B'):Core X s p old L B':=
 ⟨C.th,C.lock,C.h0,fun f=>by have:=C.h3 f;omega,fun f t ht e he a b=>by have:=C.hb3 f t ht e he a b;omega,C.ch,C.all,C.j,C.old⟩
theorem Core.go(C:Core X s p old L B)(ht:t<X.n)(q:Pos)(e1:∀u,u≠t→s'.reg u=s.reg u)(e2:s'.buf=s.buf)(e3:s'.val=s.val)
  (r6:s'.reg t 6=s.reg t 6) (r7:s'.reg t 7=s.reg t 7)
  (hcl:∀c d,p t≠.cl c d) (hhas:Has (s'.reg t) (s.buf t) q↔Has (s.reg t) (s.buf t) (p t))
  (hc:X.f≠3→cnt q=cnt (p t)) (hs:X.f≠3→X.f≠2→inS q→X.Prot s t (phi 1)∨X.Prot s t (phi 257)) (hl:X.f=4→inL q→t∈L)
  (hn:X.f=3→¬wait3 q→¬wait3 (p t)∨s.buf t=[]) (hok:X.f=3→ok3 q→1≤s.val (X.own t) 0∧s.val (X.own t) 0≤s.val X.hub 0)
  (hj:X.f=4→¬joining q→(t∈L↔s.val (X.own t) 2≠0))
  (ha:LocA (s'.reg t) (s.vw t (X.own t) 0) (s.buf t) q) (hcc:X.f=3→LocC (s'.reg t) (s.vw t (X.own t) 0) (s.val X.hub 0) (s.buf t) (X.own t) q)
  (hb:X.LocB (s'.reg t) (s.buf t) s.val (X.Prot s) (old t) L t q):Core X s' (upd p t q) old L B:=by
 have T:=C.th t ht
 have hvw:s'.vw t (X.own t) 0=s.vw t (X.own t) 0:=by unfold A.vw;rw[e2,e3]
 have hP:X.Prot s'=X.Prot s:=by funext r φ;unfold Cx.Prot;rw[e2,e3]
 refine C.move ht q e1 (fun _ _=>by rw[e2]) e3 hcl (by rw[e2];exact hhas) hj (fun f=>by rw[e2];exact C.hb3 f t ht) ?_;refine ⟨by rw[r6];exact T.r6,by rw[r7];exact T.r7,?_,?_,?_,?_,hl,?_,?_,?_,?_,?_⟩
 ·rw[e2];exact fun h=>T.buf (fun g=>h (hhas.2 g))
 ·intro f;rw[hvw,hc f];exact T.vw f
 ·intro f;rw[hP];exact T.rng f
 ·intro f g e;rw[hP];exact hs f g e
 ·rw[e2];intro f h1 h2
  rcases hn f h1 with h3|h3
  ·exact T.nb f h3 (fun g=>h2 (hhas.2 g))
  ·rw[h3];simp
 ·rw[e3];exact hok
 ·rw[e2,hvw];exact ha
 ·rw[e2,e3,hvw];exact hcc
 ·rw[e2,e3,hP];exact hb
structure Stat(P q:Pos):Prop where
 cl:∀c d,P≠.cl c d
 c:cnt q=cnt P
 s:inS q→inS P
 l:inL q→inL P
 n:¬wait3 q→¬wait3 P
 k:ok3 q→ok3 P
 j:¬joining q→¬joining P
def rset(rg:Nat→Int)(k:Nat)(v:Int):Nat→Int:=fun i=>if i=k then v else rg i
theorem setR_reg(s:A)(t k:Nat)(v:Int):(s.setR t k v).reg t=rset (s.reg t) k v:=by
 funext i
 show (if t=t∧i=k then v else s.reg t i)=if i=k then v else s.reg t i
 by_cases e:i=k
 ·rw[if_pos ⟨rfl,e⟩,if_pos e]
 ·rw[if_neg (fun h=>e h.2),if_neg e]
theorem setR_ne(s:A){t u:Nat}(k:Nat)(v:Int)(h:u≠t):(s.setR t k v).reg u=s.reg u:=by
 funext i
 exact if_neg (fun e=>h e.1)
theorem Core.goR(C:Core X s p old L B)(ht:t<X.n){P:Pos}(hp:p t=P)(q:Pos)(k:Nat)(v:Int)(hk:k<3)(S:Stat P q)
  (hhas:Has (rset (s.reg t) k v) (s.buf t) q↔Has (s.reg t) (s.buf t) P)
  (ha:LocA (rset (s.reg t) k v) (s.vw t (X.own t) 0) (s.buf t) q) (hcc:X.f=3→LocC (rset (s.reg t) k v) (s.vw t (X.own t) 0) (s.val X.hub 0) (s.buf t) (X.own t) q)
  (hb:X.LocB (rset (s.reg t) k v) (s.buf t) s.val (X.Prot s) (old t) L t q):Core X (s.setR t k v) (upd p t q) old L B:=by
 have T:=C.th t ht;subst hp
 refine C.go ht q (fun u hu=>setR_ne s k v hu) rfl rfl ?_ ?_ S.cl (by rw[setR_reg];exact hhas) (fun _=>S.c) (fun f g e=>T.sec f g (S.s e)) (fun f e=>T.il f (S.l e)) (fun f e=>.inl (S.n e)) (fun f e=>T.ok f (S.k e)) (fun f e=>C.j f t ht (S.j e)) (by rw[setR_reg];exact ha) (by rw[setR_reg];exact hcc) (by rw[setR_reg];exact hb)
 ·rw[setR_reg];exact if_neg (by omega)
 ·rw[setR_reg];exact if_neg (by omega)
theorem Core.go0(C:Core X s p old L B)(ht:t<X.n){P:Pos}(hp:p t=P)(q:Pos)(S:Stat P q)
  (hhas:Has (s.reg t) (s.buf t) q↔Has (s.reg t) (s.buf t) P)
  (ha:LocA (s.reg t) (s.vw t (X.own t) 0) (s.buf t) q) (hcc:X.f=3→LocC (s.reg t) (s.vw t (X.own t) 0) (s.val X.hub 0) (s.buf t) (X.own t) q)
  (hb:X.LocB (s.reg t) (s.buf t) s.val (X.Prot s) (old t) L t q):Core X s (upd p t q) old L B:=by
 have T:=C.th t ht;subst hp;exact C.go ht q (fun _ _=>rfl) rfl rfl rfl rfl S.cl hhas (fun _=>S.c) (fun f g e=>T.sec f g (S.s e)) (fun f e=>T.il f (S.l e)) (fun f e=>.inl (S.n e)) (fun f e=>T.ok f (S.k e)) (fun f e=>C.j f t ht (S.j e)) ha hcc hb
end Qg
end
section
namespace Qg
open Qs
theorem and255_nat:∀v,v<512→v &&& 255=v % 256:=by decide +kernel
theorem xorand_nat:∀v,v<512→((v ^^^ 1) &&& 256=0→v/256=0)∧((v ^^^ 257) &&& 256=0→v/256=1):=by decide +kernel
theorem and255{v:Int}(h:v512 v):sum2 4 v 255=v % 256:=by
 unfold v512 at h;unfold sum2;simp only;rw[show ((255:Int).toNat)=255 from rfl,and255_nat v.toNat (by omega)];omega
theorem xor256{H:Int}(h:H=1∨H=257):sum2 5 H 256=258 - H:=by
 rcases h with rfl|rfl <;> decide
theorem scanBit{v H:Int}(h:v512 v)(hH:H=1∨H=257)(h0:sum2 4 (sum2 5 v H) 256=0):phi v=phi H:=by
 unfold v512 at h
 have hq:v/256=H/256:=by
  unfold sum2 at h0;simp only at h0
  rcases hH with rfl|rfl
  ·have:=(xorand_nat v.toNat (by omega)).1 (by simpa using h0);omega
  ·have:=(xorand_nat v.toNat (by omega)).2 (by simpa using h0);omega
 funext x
 unfold phi;rw[hq]
theorem add1{v:Int}(h:v512 v):sum2 2 v 1=v+1:=by
 unfold v512 at h;unfold sum2;simp only[W32];rw[if_neg (by omega)]
theorem add2{v:Int}(h:v<4000000000):sum2 2 v 2=v+2:=by
 unfold sum2;simp only[W32];rw[if_neg (by omega)]
theorem sub1{v:Int}(h:1≤v):sum2 3 v 1=v - 1:=by
 unfold sum2;simp only[W32];rw[if_neg (by omega)]
theorem phi_of{v:Int}(h:v512 v)(h0:v % 256≠0):(∀x,x=v→phi 1 x)∨∀x,x=v→phi 257 x:=by
 unfold v512 at h
 by_cases e:v<256
 ·left;rintro x rfl;unfold phi;omega
 ·right;rintro x rfl;unfold phi;omega
theorem phi_up{h v:Int}{d:Nat}(hd:d<100)(hv:v % 256=d)(hp:phi h v):phi h (v+1):=by
 unfold phi at *;omega
theorem phi_dn{h v:Int}{d:Nat}(hd:2≤d)(hv:v % 256=d)(hp:phi h v):phi h (v - 1):=by
 unfold phi at *;omega
variable {X:Cx}{s s':A}{p:Nat→Pos}{old old':Nat→Nat→Prop}{L L':List Nat}{B:Int}{t u:Nat}
theorem rset_same(rg:Nat→Int)(k:Nat)(v:Int):rset rg k v k=v:=if_pos rfl
theorem rset_ne(rg:Nat→Int){k i:Nat}(v:Int)(h:i≠k):rset rg k v i=rg i:=if_neg h
theorem vw_free{x:Int}{w:Nat}(h:∀e∈s.buf t,e.a=x→e.w≠w):s.vw t x w=s.val x w:=lk1_none h
theorem vw_nil{x:Int}{w:Nat}(h:s.buf t=[]):s.vw t x w=s.val x w:=by unfold A.vw;rw[h];rfl
theorem gr_hub:X.gr X.hub:=.inl rfl
theorem gr_own(ht:t<X.n):X.gr (X.own t):=.inr ⟨t,ht,rfl⟩
theorem Th.hub{P:Pos}(T:Th X s old L t P)(h:¬Has (s.reg t) (s.buf t) P)(w:Nat):s.vw t X.hub w=s.val X.hub w:=
 vw_free fun e he ha=>by
  have:=T.buf h e he (ha ▸ gr_hub);exact absurd (this.1.symm.trans ha) (X.ne t)
theorem Th.own2{P:Pos}(T:Th X s old L t P)(ht:t<X.n)(h:¬Has (s.reg t) (s.buf t) P){w:Nat}(hw:w≠0):s.vw t (X.own t) w=s.val (X.own t) w:=
 vw_free fun e he ha=>by
  have:=T.buf h e he (ha ▸ gr_own ht);rw[this.2];exact hw.symm
theorem Prot_nil(hb:s.buf t=[]){φ : Int→Prop}(h : φ (s.val (X.own t) 0)):X.Prot s t φ:=⟨h,fun e he=>by rw[hb]at he;simp at he⟩
theorem Prot_phase(hb:s.buf t=[])(h:v512 (s.vw t (X.own t) 0))(h0:s.vw t (X.own t) 0 % 256≠0):X.Prot s t (phi 1)∨X.Prot s t (phi 257):=by
 rw[vw_nil hb]at h h0
 rcases phi_of h h0 with h|h
 ·exact .inl (Prot_nil hb (h _ rfl))
 ·exact .inr (Prot_nil hb (h _ rfl))
structure Beg(X:Cx)(rg:Nat→Int)(bf:List En)(vl:Int→Nat→Int)(PR:Nat→(Int→Prop)→Prop)(o:Nat→Prop)(L:List Nat)(t:Nat)(v h0:Int)(q:Pos)(d:Nat):Prop where
 a:LocA rg v bf q
 b:X.LocB rg bf vl PR o L t q
 c:LocC rg v h0 bf (X.own t) q
 n:X.f≠3→cnt q=d
 s:X.f≠3→inS q→0<d
 l:X.f=4→inL q→0<d
 w:¬wait3 q
 h:¬Has rg bf q
 j:¬joining q
theorem beg_of{q:Pos}{d:Nat}(h:startD X.f q=some d)(hd:d<100)(rg:Nat→Int)(bf:List En)(vl:Int→Nat→Int)(PR:Nat→(Int→Prop)→Prop)(o:Nat→Prop)(L:List Nat)(t:Nat)(v h0:Int):Beg X rg bf vl PR o L t v h0 q d:=by
 unfold startD at h
 split at h
 ·cases h;exact ⟨trivial,trivial,trivial,fun _=>rfl,fun _ h=>h.elim,fun _ h=>h.elim,fun h=>h,fun h=>h,fun h=>h⟩
 ·cases h;exact ⟨trivial,trivial,trivial,fun _=>rfl,fun _ h=>h,fun _ h=>h,fun h=>h,fun h=>h,fun h=>h⟩
 ·split at h
  ·rename_i hf;cases h
   exact ⟨hd,(by show X.f≠3;omega),trivial,fun _=>rfl,fun _ h=>by simpa[inS]using h,fun e=>by omega,fun h=>h,fun h=>h,fun h=>h⟩
  ·cases h
 ·split at h
  ·rename_i hf;cases h
   exact ⟨hd,⟨hf,⟨by simp,by simp,by omega⟩⟩,trivial,fun _=>rfl,fun _ h=>h,fun _ h=>by simpa[inL]using h,fun h=>h,fun h=>h,fun h=>h⟩
  ·cases h
 ·split at h
  ·rename_i hf;cases h
   exact ⟨hf.2,(by show X.f≠3;omega),trivial,fun _=>rfl,fun _ h=>h,fun _ h=>h,fun h=>h,fun h=>h,fun h=>h⟩
  ·cases h
 ·split at h
  ·rename_i hf;cases h
   exact ⟨hf.2,(by show X.f≠3;omega),trivial,fun _=>rfl,fun _ h=>h,fun _ h=>h,fun h=>h,fun h=>h,fun h=>h⟩
  ·cases h
 ·split at h
  ·cases h
  ·rename_i hf;cases h
   exact ⟨trivial,hf,trivial,fun _=>rfl,fun _ h=>h.elim,fun _ h=>h.elim,fun h=>h,fun h=>h,fun h=>h⟩
 ·split at h
  ·rename_i hf;cases h
   exact ⟨(by show 0<3;omega),hf,trivial,fun e=>absurd hf e,fun e=>absurd hf e,fun e=>by omega,fun h=>h,fun h=>h,fun h=>h⟩
  ·cases h
 ·split at h
  ·rename_i hf;cases h
   exact ⟨(by show 0<3;omega),hf,trivial,fun e=>absurd hf e,fun e=>absurd hf e,fun e=>by omega,fun h=>h,fun h=>h,fun h=>h⟩
  ·cases h
 ·split at h
  ·rename_i hf;cases h
   exact ⟨(by show 0<3;omega),hf,trivial,fun e=>absurd hf e,fun e=>absurd hf e,fun e=>by omega,fun h=>h,fun h=>h,fun h=>h⟩
  ·cases h
 ·cases h
end Qg
end
section
namespace Qg
open Qs
variable {X:Cx}{s s':A}{p:Nat→Pos}{old old':Nat→Nat→Prop}{L L':List Nat}{B:Int}{t u:Nat}
theorem g_ent0(C:Core X s p old L B)(ht:t<X.n){d:Nat}(hp:p t=.ent d 0){v:Int}(hv:v=s.vw t (X.own t) 0):Core X (s.setR t 0 v) (upd p t (.ent d 1)) old L B:=by
 have T:=C.th t ht;have Ta:=T.a;have Tb:=T.b;have Tc:=T.c;rw[hp]at Ta Tb Tc;refine C.goR ht hp _ 0 v (by omega) (by constructor <;> simp[cnt,inS,inL,wait3,ok3,joining]) (by simp[Has]) ?_ ?_ ?_
 ·exact ⟨(rset_same _ _ _).trans hv,Ta⟩
 ·exact fun _=>trivial
 ·exact Tb
theorem g_ent1(C:Core X s p old L B)(ht:t<X.n){d:Nat}(hp:p t=.ent d 1){v:Int}(hv:v=255):Core X (s.setR t 1 v) (upd p t (.ent d 2)) old L B:=by
 have T:=C.th t ht;have Ta:=T.a;have Tb:=T.b;have Tc:=T.c;rw[hp]at Ta Tb Tc;refine C.goR ht hp _ 1 v (by omega) (by constructor <;> simp[cnt,inS,inL,wait3,ok3,joining]) (by simp[Has]) ?_ ?_ ?_
 ·exact ⟨(rset_ne _ _ (by omega)).trans Ta.1,(rset_same _ _ _).trans hv,Ta.2⟩
 ·exact fun _=>trivial
 ·exact Tb
theorem g_ent2(C:Core X s p old L B)(ht:t<X.n){d:Nat}(hp:p t=.ent d 2){v:Int}(hv:v=sum2 4 (s.reg t 0) (s.reg t 1)):Core X (s.setR t 1 v) (upd p t (.ent d 3)) old L B:=by
 have T:=C.th t ht;have Ta:=T.a;have Tb:=T.b;have Tc:=T.c;rw[hp]at Ta Tb Tc
 have hcd:s.vw t (X.own t) 0 % 256=(d:Int):=by
  have:=T.vw Tb;rw[hp]at this
  simpa[cnt]using this
 have hrg:v512 (s.vw t (X.own t) 0):=Prot.vw (T.rng Tb);refine C.goR ht hp _ 1 v (by omega) (by constructor <;> simp[cnt,inS,inL,wait3,ok3,joining]) (by simp[Has]) ?_ ?_ ?_
 ·exact ⟨(rset_ne _ _ (by omega)).trans Ta.1,(rset_same _ _ _).trans (hv.trans (by rw[Ta.1,Ta.2.1,and255 hrg,hcd])),Ta.2.2⟩
 ·exact fun _=>trivial
 ·exact Tb
theorem g_ent3j(C:Core X s p old L B)(ht:t<X.n){d:Nat}(hp:p t=.ent d 3)(h0:s.reg t 1=0):Core X s (upd p t (.ent d 8)) old L B:=by
 have T:=C.th t ht;have Ta:=T.a;have Tb:=T.b;have Tc:=T.c;rw[hp]at Ta Tb Tc;refine C.go0 ht hp _ (by constructor <;> simp[cnt,inS,inL,wait3,ok3,joining]) (by simp[Has]) ?_ ?_ ?_
 ·have:=Ta.2.1;rw[h0]at this;show d=0;omega
 ·exact fun _=>trivial
 ·exact Tb
theorem g_ent3f(C:Core X s p old L B)(ht:t<X.n){d:Nat}(hp:p t=.ent d 3)(h0:s.reg t 1≠0):Core X s (upd p t (.ent d 4)) old L B:=by
 have T:=C.th t ht;have Ta:=T.a;have Tb:=T.b;have Tc:=T.c;rw[hp]at Ta Tb Tc;refine C.go0 ht hp _ (by constructor <;> simp[cnt,inS,inL,wait3,ok3,joining]) (by simp[Has]) ?_ ?_ ?_
 ·have:=Ta.2.1;exact ⟨Ta.1,by omega,Ta.2.2⟩
 ·exact fun _=>trivial
 ·exact Tb
theorem g_ent4(C:Core X s p old L B)(ht:t<X.n){d:Nat}(hp:p t=.ent d 4){v:Int}(hv:v=1):Core X (s.setR t 1 v) (upd p t (.ent d 5)) old L B:=by
 have T:=C.th t ht;have Ta:=T.a;have Tb:=T.b;have Tc:=T.c;rw[hp]at Ta Tb Tc;refine C.goR ht hp _ 1 v (by omega) (by constructor <;> simp[cnt,inS,inL,wait3,ok3,joining]) (by simp[Has]) ?_ ?_ ?_
 ·exact ⟨(rset_ne _ _ (by omega)).trans Ta.1,(rset_same _ _ _).trans hv,Ta.2⟩
 ·exact fun _=>trivial
 ·exact Tb
theorem g_ent5(C:Core X s p old L B)(ht:t<X.n){d:Nat}(hp:p t=.ent d 5){v:Int}(hv:v=sum2 2 (s.reg t 0) (s.reg t 1)):Core X (s.setR t 0 v) (upd p t (.ent d 6)) old L B:=by
 have T:=C.th t ht;have Ta:=T.a;have Tb:=T.b;have Tc:=T.c;rw[hp]at Ta Tb Tc
 have hcd:s.vw t (X.own t) 0 % 256=(d:Int):=by
  have:=T.vw Tb;rw[hp]at this
  simpa[cnt]using this
 have hrg:v512 (s.vw t (X.own t) 0):=Prot.vw (T.rng Tb);refine C.goR ht hp _ 0 v (by omega) (by constructor <;> simp[cnt,inS,inL,wait3,ok3,joining]) (by simp[Has]) ?_ ?_ ?_
 ·exact ⟨(rset_same _ _ _).trans (hv.trans (by rw[Ta.1,Ta.2.1,add1 hrg])),Ta.2.2⟩
 ·exact fun _=>trivial
 ·exact Tb
theorem g_ent7(C:Core X s p old L B)(ht:t<X.n){d:Nat}(hp:p t=.ent d 7):Core X s (upd p t (.ent d 12)) old L B:=by
 have T:=C.th t ht;have Ta:=T.a;have Tb:=T.b;have Tc:=T.c;rw[hp]at Ta Tb Tc;refine C.go0 ht hp _ (by have hd:0<d:=Ta;constructor <;> simp[cnt,inS,inL,wait3,ok3,joining,hd]) (by simp[Has]) ?_ ?_ ?_
 ·trivial
 ·exact fun _=>trivial
 ·exact Tb
theorem g_ent8(C:Core X s p old L B)(ht:t<X.n){d:Nat}(hp:p t=.ent d 8):Core X s (upd p t (.ent d 9)) old L B:=by
 have T:=C.th t ht;have Ta:=T.a;have Tb:=T.b;have Tc:=T.c;rw[hp]at Ta Tb Tc;refine C.go0 ht hp _ (by constructor <;> simp[cnt,inS,inL,wait3,ok3,joining]) (by simp[Has]) ?_ ?_ ?_
 ·exact Ta
 ·exact fun _=>trivial
 ·exact Tb
theorem g_ent9(C:Core X s p old L B)(ht:t<X.n){d:Nat}(hp:p t=.ent d 9){v:Int}(hv:v=s.vw t X.hub 0):Core X (s.setR t 0 v) (upd p t (.ent d 10)) old L B:=by
 have T:=C.th t ht;have Ta:=T.a;have Tb:=T.b;have Tc:=T.c;rw[hp]at Ta Tb Tc;refine C.goR ht hp _ 0 v (by omega) (by constructor <;> simp[cnt,inS,inL,wait3,ok3,joining]) (by simp[Has]) ?_ ?_ ?_
 ·exact ⟨Ta,by rw[rset_same,hv,T.hub (by rw[hp];simp[Has])];exact C.h0 Tb⟩
 ·exact fun _=>trivial
 ·exact Tb
theorem g_lea0(C:Core X s p old L B)(ht:t<X.n){d:Nat}(hp:p t=.lea d 0):Core X s (upd p t (.lea d 1)) old L B:=by
 have T:=C.th t ht;have Ta:=T.a;have Tb:=T.b;have Tc:=T.c;rw[hp]at Ta Tb Tc;refine C.go0 ht hp _ (by constructor <;> simp[cnt,inS,inL,wait3,ok3,joining]) (by simp[Has]) ?_ ?_ ?_
 ·exact Ta
 ·exact fun _=>trivial
 ·exact Tb
theorem g_lea1(C:Core X s p old L B)(ht:t<X.n){d:Nat}(hp:p t=.lea d 1){v:Int}(hv:v=s.vw t (X.own t) 0):Core X (s.setR t 0 v) (upd p t (.lea d 2)) old L B:=by
 have T:=C.th t ht;have Ta:=T.a;have Tb:=T.b;have Tc:=T.c;rw[hp]at Ta Tb Tc;refine C.goR ht hp _ 0 v (by omega) (by constructor <;> simp[cnt,inS,inL,wait3,ok3,joining]) (by simp[Has]) ?_ ?_ ?_
 ·exact ⟨Ta,(rset_same _ _ _).trans hv⟩
 ·exact fun _=>trivial
 ·exact Tb
theorem g_lea2(C:Core X s p old L B)(ht:t<X.n){d:Nat}(hp:p t=.lea d 2){v:Int}(hv:v=1):Core X (s.setR t 1 v) (upd p t (.lea d 3)) old L B:=by
 have T:=C.th t ht;have Ta:=T.a;have Tb:=T.b;have Tc:=T.c;rw[hp]at Ta Tb Tc;refine C.goR ht hp _ 1 v (by omega) (by constructor <;> simp[cnt,inS,inL,wait3,ok3,joining]) (by simp[Has]) ?_ ?_ ?_
 ·exact ⟨Ta.1,(rset_ne _ _ (by omega)).trans Ta.2,(rset_same _ _ _).trans hv⟩
 ·exact fun _=>trivial
 ·exact Tb
theorem g_lea3(C:Core X s p old L B)(ht:t<X.n){d:Nat}(hp:p t=.lea d 3){v:Int}(hv:v=sum2 3 (s.reg t 0) (s.reg t 1)):Core X (s.setR t 0 v) (upd p t (.lea d 4)) old L B:=by
 have T:=C.th t ht;have Ta:=T.a;have Tb:=T.b;have Tc:=T.c;rw[hp]at Ta Tb Tc
 have hcd:s.vw t (X.own t) 0 % 256=(d:Int):=by
  have:=T.vw Tb;rw[hp]at this
  simpa[cnt]using this
 have hrg:v512 (s.vw t (X.own t) 0):=Prot.vw (T.rng Tb);refine C.goR ht hp _ 0 v (by omega) (by constructor <;> simp[cnt,inS,inL,wait3,ok3,joining]) (by simp[Has]) ?_ ?_ ?_
 ·exact ⟨Ta.1,(rset_same _ _ _).trans (hv.trans (by rw[Ta.2.1,Ta.2.2,sub1 (by have:=Ta.1;unfold v512 at hrg;omega)]))⟩
 ·exact fun _=>trivial
 ·exact Tb
theorem g_jh0(C:Core X s p old L B)(ht:t<X.n){d:Nat}(hp:p t=.jh d 0){v:Int}(hv:v=s.vw t (X.own t) 2):Core X (s.setR t 0 v) (upd p t (.jh d 1)) old L B:=by
 have T:=C.th t ht;have Ta:=T.a;have Tb:=T.b;have Tc:=T.c;rw[hp]at Ta Tb Tc;refine C.goR ht hp _ 0 v (by omega) (by constructor <;> simp[cnt,inS,inL,wait3,ok3,joining]) (by simp[Has]) ?_ ?_ ?_
 ·exact Ta
 ·exact fun _=>trivial
 ·refine ⟨Tb.1,fun _=>?_,fun e=>by omega,by omega⟩;rw[rset_same,hv,T.own2 ht (by rw[hp];simp[Has]) (by omega)];exact (C.j Tb.1 t ht (by rw[hp];simp[joining])).symm
theorem g_jh1j(C:Core X s p old L B)(ht:t<X.n)(hp:p t=.jh 0 1)(h0:s.reg t 0=0):Core X s (upd p t (.jh 0 3)) old L B:=by
 have T:=C.th t ht;have Ta:=T.a;have Tb:=T.b;have Tc:=T.c;rw[hp]at Ta Tb Tc;refine C.go0 ht hp _ (by constructor <;> simp[cnt,inS,inL,wait3,ok3,joining]) (by simp[Has]) ?_ ?_ ?_
 ·exact Ta
 ·exact fun _=>trivial
 ·exact ⟨Tb.1,fun e=>by omega,fun _=>⟨fun e=>(Tb.2.1 rfl).2 e h0,rfl⟩,by omega⟩
theorem g_jh1d(C:Core X s p old L B)(ht:t<X.n){d:Nat}(hd:0<d)(hp:p t=.jh d 1)(h0:s.reg t 0=0):False:=by
 have T:=C.th t ht;have Tb:=T.b;rw[hp]at Tb;have hL:=T.il Tb.1 (by rw[hp];exact .inl hd);exact (Tb.2.1 rfl).2 hL h0
theorem g_jh1f(C:Core X s p old L B)(ht:t<X.n){d:Nat}(hp:p t=.jh d 1)(h0:s.reg t 0≠0):Core X s (upd p t (.jh d 2)) old L B:=by
 have T:=C.th t ht;have Ta:=T.a;have Tb:=T.b;rw[hp]at Ta Tb
 refine C.go ht _ (fun _ _=>rfl) rfl rfl rfl rfl (by rw[hp];simp) (by rw[hp];simp[Has]) (by rw[hp];simp[cnt]) (fun f g e=>T.sec f g (by rw[hp];exact e)) (fun _ _=>(Tb.2.1 rfl).1 h0) (by rw[hp];simp[wait3]) (by simp[ok3]) (fun f e=>C.j f t ht (by rw[hp];simp[joining])) ?_ (fun _=>trivial) ?_
 ·exact Ta
 ·exact ⟨Tb.1,fun e=>by omega,fun e=>by omega,by omega⟩
theorem g_jh2(C:Core X s p old L B)(ht:t<X.n){d:Nat}(hp:p t=.jh d 2):Core X s (upd p t (.jk d)) old L B:=by
 have T:=C.th t ht;have Ta:=T.a;have Tb:=T.b;have Tc:=T.c;rw[hp]at Ta Tb Tc;refine C.go0 ht hp _ (by constructor <;> simp[cnt,inS,inL,wait3,ok3,joining]) (by simp[Has]) ?_ ?_ ?_
 ·exact Ta
 ·exact fun _=>trivial
 ·exact Tb.1
theorem g_jh3(C:Core X s p old L B)(ht:t<X.n)(hp:p t=.jh 0 3):Core X s (upd p t (.tk 0 0)) old L B:=by
 have T:=C.th t ht;have Ta:=T.a;have Tb:=T.b;have Tc:=T.c;rw[hp]at Ta Tb Tc;refine C.go0 ht hp _ (by constructor <;> simp[cnt,inS,inL,wait3,ok3,joining]) (by simp[Has]) ?_ ?_ ?_
 ·exact fun h=>absurd rfl h
 ·exact fun _=>trivial
 ·exact ⟨fun _=>⟨(Tb.2.2.1 rfl).1,Tb.1⟩,fun e=>by omega,fun e=>by omega,by omega⟩
theorem g_jk(C:Core X s p old L B)(ht:t<X.n){d:Nat}(hp:p t=.jk d):Core X s (upd p t (.ent d 0)) old L B:=by
 have T:=C.th t ht;have Ta:=T.a;have Tb:=T.b;have Tc:=T.c;rw[hp]at Ta Tb Tc;refine C.go0 ht hp _ (by constructor <;> simp[cnt,inS,inL,wait3,ok3,joining]) (by simp[Has]) ?_ ?_ ?_
 ·exact Ta
 ·exact fun _=>trivial
 ·show X.f≠3;have:X.f=4:=Tb;omega
theorem g_tk0(C:Core X s p old L B)(ht:t<X.n){k:Nat}(hp:p t=.tk k 0):Core X s (upd p t (.tk k 1)) old L B:=by
 have T:=C.th t ht;have Ta:=T.a;have Tb:=T.b;have Tc:=T.c;rw[hp]at Ta Tb Tc;refine C.go0 ht hp _ (by constructor <;> simp[cnt,inS,inL,wait3,ok3,joining]) (by simp[Has]) ?_ ?_ ?_
 ·exact Ta
 ·exact fun _=>trivial
 ·exact Tb
theorem g_tk1(C:Core X s p old L B)(ht:t<X.n){k:Nat}(hp:p t=.tk k 1){v:Int}(hv:v=0):Core X (s.setR t 0 v) (upd p t (.tk k 2)) old L B:=by
 have T:=C.th t ht;have Ta:=T.a;have Tb:=T.b;have Tc:=T.c;rw[hp]at Ta Tb Tc;refine C.goR ht hp _ 0 v (by omega) (by constructor <;> simp[cnt,inS,inL,wait3,ok3,joining]) (by simp[Has]) ?_ ?_ ?_
 ·exact ⟨Ta,(rset_same _ _ _).trans hv⟩
 ·exact fun _=>trivial
 ·exact Tb
theorem g_tk2(C:Core X s p old L B)(ht:t<X.n){k:Nat}(hp:p t=.tk k 2){v:Int}(hv:v=1):Core X (s.setR t 1 v) (upd p t (.tk k 3)) old L B:=by
 have T:=C.th t ht;have Ta:=T.a;have Tb:=T.b;have Tc:=T.c;rw[hp]at Ta Tb Tc;refine C.goR ht hp _ 1 v (by omega) (by constructor <;> simp[cnt,inS,inL,wait3,ok3,joining]) (by simp[Has]) ?_ ?_ ?_
 ·exact ⟨Ta.1,(rset_ne _ _ (by omega)).trans Ta.2,(rset_same _ _ _).trans hv⟩
 ·exact fun _=>trivial
 ·exact Tb
theorem g_tk4j(C:Core X s p old L B)(ht:t<X.n){k:Nat}(hp:p t=.tk k 4)(h0:s.reg t 0=0):Core X s (upd p t (.tk k 6)) old L B:=by
 have T:=C.th t ht;have Ta:=T.a;have Tb:=T.b;have Tc:=T.c;rw[hp]at Ta Tb Tc;refine C.go0 ht hp _ (by constructor <;> simp[cnt,inS,inL,wait3,ok3,joining]) (by simp[Has,h0]) ?_ ?_ ?_
 ·exact Ta
 ·exact fun _=>trivial
 ·exact Tb
theorem g_tk4f(C:Core X s p old L B)(ht:t<X.n){k:Nat}(hp:p t=.tk k 4)(h0:s.reg t 0≠0):Core X s (upd p t (.tk k 5)) old L B:=by
 have T:=C.th t ht;have Ta:=T.a;have Tb:=T.b;have Tc:=T.c;rw[hp]at Ta Tb Tc;refine C.go0 ht hp _ (by constructor <;> simp[cnt,inS,inL,wait3,ok3,joining]) (by simp[Has,h0]) ?_ ?_ ?_
 ·exact Ta
 ·exact fun _=>trivial
 ·exact Tb
theorem g_tk5(C:Core X s p old L B)(ht:t<X.n){k:Nat}(hp:p t=.tk k 5):Core X s (upd p t (.tk k 0)) old L B:=by
 have T:=C.th t ht;have Ta:=T.a;have Tb:=T.b;have Tc:=T.c;rw[hp]at Ta Tb Tc;refine C.go0 ht hp _ (by constructor <;> simp[cnt,inS,inL,wait3,ok3,joining]) (by simp[Has]) ?_ ?_ ?_
 ·exact fun _=>Ta
 ·exact fun _=>trivial
 ·exact Tb
theorem g_tk60(C:Core X s p old L B)(ht:t<X.n)(hp:p t=.tk 0 6):Core X s (upd p t (.jc 0)) old L B:=by
 have T:=C.th t ht;have Ta:=T.a;have Tb:=T.b;have Tc:=T.c;rw[hp]at Ta Tb Tc;refine C.go0 ht hp _ (by constructor <;> simp[cnt,inS,inL,wait3,ok3,joining]) (by simp[Has]) ?_ ?_ ?_
 ·trivial
 ·exact fun _=>trivial
 ·have h4:=Tb.1 rfl;have hj:=C.j h4.2 t ht (by rw[hp];simp[joining]);have h2:s.val (X.own t) 2=0:=Classical.byContradiction fun e=>h4.1 (hj.2 e);have hb:s.buf t=[]:=Ta;exact ⟨h4.2,0,s.val X.hub 2,Nat.le_refl _,by rw[hb];rfl,fun _=>⟨h4.1,rfl⟩,fun a=>by omega,fun a=>by omega,fun _=>h2,fun a=>by omega⟩
theorem g_tk61(C:Core X s p old L B)(ht:t<X.n)(hp:p t=.tk 1 6):Core X s (upd p t (.wn false 0)) old L B:=by
 have T:=C.th t ht;have Ta:=T.a;have Tb:=T.b;have Tc:=T.c;rw[hp]at Ta Tb Tc;refine C.go0 ht hp _ (by constructor <;> simp[cnt,inS,inL,wait3,ok3,joining]) (by simp[Has]) ?_ ?_ ?_
 ·trivial
 ·exact fun _=>trivial
 ·exact ⟨(Tb.2.1 rfl).1,Ta,fun r hr ho=>(Tb.2.1 rfl).2 r hr ho⟩
theorem g_tk62(C:Core X s p old L B)(ht:t<X.n)(hp:p t=.tk 2 6):Core X s (upd p t (.cs 0)) old L B:=by
 have T:=C.th t ht;have Ta:=T.a;have Tb:=T.b;have Tc:=T.c;rw[hp]at Ta Tb Tc;refine C.go0 ht hp _ (by constructor <;> simp[cnt,inS,inL,wait3,ok3,joining]) (by simp[Has]) ?_ ?_ ?_
 ·trivial
 ·exact fun _=>trivial
 ·exact ⟨Tb.2.2.1 rfl,Ta⟩
theorem g_jc0(C:Core X s p old L B)(ht:t<X.n)(hp:p t=.jc 0){v:Int}(hv:v=s.vw t X.hub 2):Core X (s.setR t 0 v) (upd p t (.jc 1)) old L B:=by
 have T:=C.th t ht;have Ta:=T.a;have Tb:=T.b;have Tc:=T.c;rw[hp]at Ta Tb Tc
 have hbf:s.buf t=[]:=by
  obtain ⟨i,F,h1,h2,_⟩:=Tb.2
  simpa[Nat.le_zero.1 h1]using h2
 refine C.goR ht hp _ 0 v (by omega) (by constructor <;> simp[cnt,inS,inL,wait3,ok3,joining]) (by simp[Has]) ?_ ?_ ?_
 ·trivial
 ·exact fun _=>trivial
 ·exact ⟨Tb.1,Tb.2,by rw[rset_same,hv,vw_nil hbf]⟩
theorem g_jc3(C:Core X s p old L B)(ht:t<X.n)(hp:p t=.jc 3){v:Int}(hv:v=1):Core X (s.setR t 0 v) (upd p t (.jc 4)) old L B:=by
 have T:=C.th t ht;have Ta:=T.a;have Tb:=T.b;have Tc:=T.c;rw[hp]at Ta Tb Tc;refine C.goR ht hp _ 0 v (by omega) (by constructor <;> simp[cnt,inS,inL,wait3,ok3,joining]) (by simp[Has]) ?_ ?_ ?_
 ·trivial
 ·exact fun _=>trivial
 ·exact ⟨Tb.1,Tb.2,(rset_same _ _ _).trans hv⟩
theorem g_gv00(C:Core X s p old L B)(ht:t<X.n)(hp:p t=.gv 0 0){v:Int}(hv:v=0):Core X (s.setR t 0 v) (upd p t (.gv 0 1)) old L B:=by
 have T:=C.th t ht;have Ta:=T.a;have Tb:=T.b;have Tc:=T.c;rw[hp]at Ta Tb Tc;refine C.goR ht hp _ 0 v (by omega) (by constructor <;> simp[cnt,inS,inL,wait3,ok3,joining]) (by simp[Has]) ?_ ?_ ?_
 ·trivial
 ·exact fun _=>trivial
 ·exact ⟨Tb.1,Tb.2,(rset_same _ _ _).trans hv⟩
theorem g_gv0(C:Core X s p old L B)(ht:t<X.n){k:Nat}(hp:p t=.gv k 0)(hk:k≠0){v:Int}(hv:v=0):Core X (s.setR t 0 v) (upd p t (.gv k 1)) old L B:=by
 have T:=C.th t ht;have Ta:=T.a;have Tb:=T.b;have Tc:=T.c;rw[hp]at Ta Tb Tc;refine C.goR ht hp _ 0 v (by omega) (by obtain ⟨k,rfl⟩:∃j,k=j+1:=⟨k - 1,by omega⟩;constructor <;> simp[cnt,inS,inL,wait3,ok3,joining]) (by obtain ⟨k,rfl⟩:∃j,k=j+1:=⟨k - 1,by omega⟩;simp[Has]) ?_ ?_ ?_
 ·trivial
 ·exact fun _=>trivial
 ·show (if k=0 then _ else _);rw[if_neg hk];have Tb':(if k=0 then X.LGv0 (s.reg t) (s.buf t) s.val L t 0 else X.LGv (s.reg t) (s.buf t) (old t) k 0):=Tb;rw[if_neg hk]at Tb';exact ⟨Tb'.1,Tb'.2.1,fun _=>Tb'.2.2.1 (by omega),fun _=>(rset_same _ _ _).trans hv,fun e=>by omega,by omega⟩
end Qg
end
section
namespace Qg
open Qs
variable {X:Cx}{s s':A}{p:Nat→Pos}{old old':Nat→Nat→Prop}{L L':List Nat}{B:Int}{t u:Nat}
theorem g_wn0(C:Core X s p old L B)(ht:t<X.n){g:Bool}(hp:p t=.wn g 0){v:Int}(hv:v=s.vw t X.hub 0):Core X (s.setR t 0 v) (upd p t (.wn g 1)) old L B:=by
 have T:=C.th t ht;have Ta:=T.a;have Tb:=T.b;have Tc:=T.c;rw[hp]at Ta Tb Tc;refine C.goR ht hp _ 0 v (by omega) (by constructor <;> simp[cnt,inS,inL,wait3,ok3,joining]) (by simp[Has]) ?_ ?_ ?_
 ·trivial
 ·exact fun _=>trivial
 ·exact ⟨Tb.1,Tb.2.1,by rw[rset_same,hv,vw_nil Tb.2.1],Tb.2.2⟩
theorem g_wn1(C:Core X s p old L B)(ht:t<X.n){g:Bool}(hp:p t=.wn g 1){v:Int}(hv:v=256):Core X (s.setR t 1 v) (upd p t (.wn g 2)) old L B:=by
 have T:=C.th t ht;have Ta:=T.a;have Tb:=T.b;have Tc:=T.c;rw[hp]at Ta Tb Tc;refine C.goR ht hp _ 1 v (by omega) (by constructor <;> simp[cnt,inS,inL,wait3,ok3,joining]) (by simp[Has]) ?_ ?_ ?_
 ·trivial
 ·exact fun _=>trivial
 ·exact ⟨Tb.1,Tb.2.1,(rset_ne _ _ (by omega)).trans Tb.2.2.1,(rset_same _ _ _).trans hv,Tb.2.2.2⟩
theorem g_wn2(C:Core X s p old L B)(ht:t<X.n){g:Bool}(hp:p t=.wn g 2){v:Int}(hv:v=sum2 5 (s.reg t 0) (s.reg t 1)):Core X (s.setR t 0 v) (upd p t (.wn g 3)) old L B:=by
 have T:=C.th t ht;have Ta:=T.a;have Tb:=T.b;have Tc:=T.c;rw[hp]at Ta Tb Tc;have hH:=C.h0 Tb.1;refine C.goR ht hp _ 0 v (by omega) (by constructor <;> simp[cnt,inS,inL,wait3,ok3,joining]) (by simp[Has]) ?_ ?_ ?_
 ·trivial
 ·exact fun _=>trivial
 ·exact ⟨Tb.1,Tb.2.1,by rw[rset_same,hv,Tb.2.2.1,Tb.2.2.2.1,xor256 hH],Tb.2.2.2.2⟩
theorem g_wn4(C:Core X s p old L B)(ht:t<X.n){g:Bool}(hp:p t=.wn g 4)(hbf:s.buf t=[]):Core X s (upd p t (.wn g 5)) old L B:=by
 have T:=C.th t ht;have Ta:=T.a;have Tb:=T.b;have Tc:=T.c;rw[hp]at Ta Tb Tc;refine C.go0 ht hp _ (by constructor <;> simp[cnt,inS,inL,wait3,ok3,joining]) (by simp[Has]) ?_ ?_ ?_
 ·trivial
 ·exact fun _=>trivial
 ·obtain ⟨h3,V,hV,hb,hT⟩:=Tb
  rcases hb with hb|⟨_,hb⟩
  ·rw[hbf]at hb;cases hb
  ·rw[←hb]at hT;exact ⟨h3,hbf,hT⟩
theorem g_wn5(C:Core X s p old L B)(ht:t<X.n){g:Bool}(hp:p t=.wn g 5){v:Int}(hv:v=s.vw t X.hub 2):Core X (s.setR t 2 v) (upd p t (.wn g 6)) old L B:=by
 have T:=C.th t ht;have Ta:=T.a;have Tb:=T.b;have Tc:=T.c;rw[hp]at Ta Tb Tc;refine C.goR ht hp _ 2 v (by omega) (by constructor <;> simp[cnt,inS,inL,wait3,ok3,joining]) (by simp[Has]) ?_ ?_ ?_
 ·trivial
 ·exact fun _=>trivial
 ·refine ⟨Tb.1,Tb.2.1,L,by rw[rset_same,hv,vw_nil Tb.2.1];exact C.ch,fun r hr ho=>.inl ⟨?_,Tb.2.2 r hr ho⟩⟩;obtain ⟨c,d,h1,h2⟩:=C.old t r ht hr ho
  by_cases h4:X.f=4
  ·exact (C.th r hr).il h4 (by rw[h1];exact h2)
  ·exact C.all h4 r hr
theorem g_wn6(C:Core X s p old L B)(ht:t<X.n){g:Bool}(hp:p t=.wn g 6):Core X s (upd p t (.wn g 7)) old L B:=by
 have T:=C.th t ht;have Ta:=T.a;have Tb:=T.b;have Tc:=T.c;rw[hp]at Ta Tb Tc;refine C.go0 ht hp _ (by constructor <;> simp[cnt,inS,inL,wait3,ok3,joining]) (by simp[Has]) ?_ ?_ ?_
 ·exact Ta
 ·exact fun _=>trivial
 ·exact Tb
theorem g_wn7j(C:Core X s p old L B)(ht:t<X.n){g:Bool}(hp:p t=.wn g 7)(h0:s.reg t 2=0)(O:∀r,r<X.n→X.own r≠0):Core X s (upd p t (.wn g 22)) old L B:=by
 have T:=C.th t ht;have Ta:=T.a;have Tb:=T.b;have Tc:=T.c;rw[hp]at Ta Tb Tc;refine C.go0 ht hp _ (by constructor <;> simp[cnt,inS,inL,wait3,ok3,joining]) (by simp[Has]) ?_ ?_ ?_
 ·trivial
 ·exact fun _=>trivial
 ·obtain ⟨h3,hb,l,hl,hT⟩:=Tb
  cases l with
  |cons x l=>exact absurd (hl.1.symm.trans h0) (O x hl.2.1)
  |nil=>exact ⟨h3,hb,fun r hr ho=>(hT r hr ho).resolve_left (fun e=>by simp at e)⟩
theorem g_wn7f(C:Core X s p old L B)(ht:t<X.n){g:Bool}(hp:p t=.wn g 7)(h0:s.reg t 2≠0):Core X s (upd p t (.wx g 8)) old L B:=by
 have T:=C.th t ht;have Ta:=T.a;have Tb:=T.b;have Tc:=T.c;rw[hp]at Ta Tb Tc;refine C.go0 ht hp _ (by constructor <;> simp[cnt,inS,inL,wait3,ok3,joining]) (by simp[Has]) ?_ ?_ ?_
 ·trivial
 ·exact fun _=>trivial
 ·obtain ⟨h3,hb,l,hl,hT⟩:=Tb
  cases l with
  |nil=>exact absurd hl h0
  |cons x l=>
   refine ⟨h3,hb,x,l,hl.2.1,hl.1,hl.2.2,.inl ⟨by omega,fun r hr ho=>?_,trivial⟩⟩
   rcases hT r hr ho with ⟨a,b⟩|a
   ·exact .inl ⟨by simpa using a,b⟩
   ·exact .inr a
theorem g_wx8(C:Core X s p old L B)(ht:t<X.n){g:Bool}(hp:p t=.wx g 8):Core X s (upd p t (.wx g 9)) old L B:=by
 have T:=C.th t ht;have Ta:=T.a;have Tb:=T.b;have Tc:=T.c;rw[hp]at Ta Tb Tc;refine C.go0 ht hp _ (by constructor <;> simp[cnt,inS,inL,wait3,ok3,joining]) (by simp[Has]) ?_ ?_ ?_
 ·trivial
 ·exact fun _=>trivial
 ·obtain ⟨h3,hb,x,l,hx,hr2,hl,hT⟩:=Tb
  rcases hT with ⟨h1,h2,h4⟩|⟨h1,_⟩
  ·refine ⟨h3,hb,x,l,hx,hr2,hl,.inl ⟨by omega,h2,?_⟩⟩;trivial
  ·omega
theorem g_wx9(C:Core X s p old L B)(ht:t<X.n){g:Bool}(hp:p t=.wx g 9){v:Int}(hv:v=s.vw t (s.reg t 2) 0):Core X (s.setR t 0 v) (upd p t (.wx g 10)) old L B:=by
 have T:=C.th t ht;have Ta:=T.a;have Tb:=T.b;have Tc:=T.c;rw[hp]at Ta Tb Tc;refine C.goR ht hp _ 0 v (by omega) (by constructor <;> simp[cnt,inS,inL,wait3,ok3,joining]) (by simp[Has]) ?_ ?_ ?_
 ·trivial
 ·exact fun _=>trivial
 ·obtain ⟨h3,hb,x,l,hx,hr2,hl,hT⟩:=Tb
  rcases hT with ⟨h1,h2,h4⟩|⟨h1,_⟩
  ·refine ⟨h3,hb,x,l,hx,by rw[rset_ne _ _ (by omega)];exact hr2,hl,.inl ⟨by omega,h2,?_⟩⟩
   have hv2:v=s.val (X.own x) 0:=by rw[hv,vw_nil hb,hr2]
   have hrx:=((C.th x hx).rng h3).1;refine ⟨by rw[rset_same,hv2];exact hrx,fun ho=>?_⟩;rw[rset_same,hv2]
   rcases h2 x hx ho with ⟨_,b⟩|b
   ·have hp1:∀h,X.Prot s x (phi h)→s.val (X.own x) 0 % 256≠0∧X.Prot s x (phi (s.val (X.own x) 0)):=fun h hh=>⟨hh.1.1,Prot.imp hh fun y hy=>⟨hy.1,hy.2.trans hh.1.2.symm⟩⟩;unfold Td at b;cases g
    ·rcases b with b|b
     ·exact hp1 _ b
     ·exact hp1 _ b
    ·exact hp1 _ b
   ·have hp1:∀h,X.Prot s x (phi h)→s.val (X.own x) 0 % 256≠0∧X.Prot s x (phi (s.val (X.own x) 0)):=fun h hh=>⟨hh.1.1,Prot.imp hh fun y hy=>⟨hy.1,hy.2.trans hh.1.2.symm⟩⟩;unfold Ps at b;cases g
    ·exact hp1 _ b
    ·exact b.elim
  ·omega
theorem g_wx10(C:Core X s p old L B)(ht:t<X.n){g:Bool}(hp:p t=.wx g 10){v:Int}(hv:v=255):Core X (s.setR t 1 v) (upd p t (.wx g 11)) old L B:=by
 have T:=C.th t ht;have Ta:=T.a;have Tb:=T.b;have Tc:=T.c;rw[hp]at Ta Tb Tc;refine C.goR ht hp _ 1 v (by omega) (by constructor <;> simp[cnt,inS,inL,wait3,ok3,joining]) (by simp[Has]) ?_ ?_ ?_
 ·trivial
 ·exact fun _=>trivial
 ·obtain ⟨h3,hb,x,l,hx,hr2,hl,hT⟩:=Tb
  rcases hT with ⟨h1,h2,h4⟩|⟨h1,_⟩
  ·refine ⟨h3,hb,x,l,hx,by rw[rset_ne _ _ (by omega)];exact hr2,hl,.inl ⟨by omega,h2,?_⟩⟩;exact ⟨by rw[rset_ne _ _ (by omega)];exact h4.1,(rset_same _ _ _).trans hv,by rw[rset_ne _ _ (by omega)];exact h4.2⟩
  ·omega
theorem g_wx11(C:Core X s p old L B)(ht:t<X.n){g:Bool}(hp:p t=.wx g 11){v:Int}(hv:v=sum2 4 (s.reg t 0) (s.reg t 1)):Core X (s.setR t 1 v) (upd p t (.wx g 12)) old L B:=by
 have T:=C.th t ht;have Ta:=T.a;have Tb:=T.b;have Tc:=T.c;rw[hp]at Ta Tb Tc;refine C.goR ht hp _ 1 v (by omega) (by constructor <;> simp[cnt,inS,inL,wait3,ok3,joining]) (by simp[Has]) ?_ ?_ ?_
 ·trivial
 ·exact fun _=>trivial
 ·obtain ⟨h3,hb,x,l,hx,hr2,hl,hT⟩:=Tb
  rcases hT with ⟨h1,h2,h4⟩|⟨h1,_⟩
  ·refine ⟨h3,hb,x,l,hx,by rw[rset_ne _ _ (by omega)];exact hr2,hl,.inl ⟨by omega,h2,?_⟩⟩;exact ⟨by rw[rset_ne _ _ (by omega)];exact h4.1,by rw[rset_same,rset_ne _ _ (by omega),hv,h4.2.1,and255 h4.1],by rw[rset_ne _ _ (by omega)];exact h4.2.2⟩
  ·omega
theorem g_wx12j(C:Core X s p old L B)(ht:t<X.n){g:Bool}(hp:p t=.wx g 12)(h0:s.reg t 1=0):Core X s (upd p t (.wx g 19)) old L B:=by
 have T:=C.th t ht;have Ta:=T.a;have Tb:=T.b;have Tc:=T.c;rw[hp]at Ta Tb Tc;refine C.go0 ht hp _ (by constructor <;> simp[cnt,inS,inL,wait3,ok3,joining]) (by simp[Has]) ?_ ?_ ?_
 ·trivial
 ·exact fun _=>trivial
 ·obtain ⟨h3,hb,x,l,hx,hr2,hl,hT⟩:=Tb
  rcases hT with ⟨h1,h2,h4⟩|⟨h1,_⟩
  ·refine ⟨h3,hb,x,l,hx,hr2,hl,.inr ⟨.inl rfl,fun r hr ho=>?_⟩⟩
   rcases h2 r hr ho with ⟨a,b⟩|a
   ·by_cases e:r=x
    ·subst e;exact absurd (h4.2.1.symm.trans h0) (h4.2.2 ho).1
    ·exact .inl ⟨a.resolve_left e,b⟩
   ·exact .inr a
  ·omega
theorem g_wx12f(C:Core X s p old L B)(ht:t<X.n){g:Bool}(hp:p t=.wx g 12)(h0:s.reg t 1≠0):Core X s (upd p t (.wx g 13)) old L B:=by
 have T:=C.th t ht;have Ta:=T.a;have Tb:=T.b;have Tc:=T.c;rw[hp]at Ta Tb Tc;refine C.go0 ht hp _ (by constructor <;> simp[cnt,inS,inL,wait3,ok3,joining]) (by simp[Has]) ?_ ?_ ?_
 ·trivial
 ·exact fun _=>trivial
 ·obtain ⟨h3,hb,x,l,hx,hr2,hl,hT⟩:=Tb
  rcases hT with ⟨h1,h2,h4⟩|⟨h1,_⟩
  ·refine ⟨h3,hb,x,l,hx,hr2,hl,.inl ⟨by omega,h2,?_⟩⟩;exact ⟨h4.1,h4.2.2⟩
  ·omega
theorem g_wx13(C:Core X s p old L B)(ht:t<X.n){g:Bool}(hp:p t=.wx g 13){v:Int}(hv:v=s.vw t X.hub 0):Core X (s.setR t 1 v) (upd p t (.wx g 14)) old L B:=by
 have T:=C.th t ht;have Ta:=T.a;have Tb:=T.b;have Tc:=T.c;rw[hp]at Ta Tb Tc;refine C.goR ht hp _ 1 v (by omega) (by constructor <;> simp[cnt,inS,inL,wait3,ok3,joining]) (by simp[Has]) ?_ ?_ ?_
 ·trivial
 ·exact fun _=>trivial
 ·obtain ⟨h3,hb,x,l,hx,hr2,hl,hT⟩:=Tb
  rcases hT with ⟨h1,h2,h4⟩|⟨h1,_⟩
  ·refine ⟨h3,hb,x,l,hx,by rw[rset_ne _ _ (by omega)];exact hr2,hl,.inl ⟨by omega,h2,?_⟩⟩;exact ⟨by rw[rset_ne _ _ (by omega)];exact h4.1,by rw[rset_same,hv,vw_nil hb],by rw[rset_ne _ _ (by omega)];exact h4.2⟩
  ·omega
theorem g_wx14(C:Core X s p old L B)(ht:t<X.n){g:Bool}(hp:p t=.wx g 14){v:Int}(hv:v=sum2 5 (s.reg t 0) (s.reg t 1)):Core X (s.setR t 1 v) (upd p t (.wx g 15)) old L B:=by
 have T:=C.th t ht;have Ta:=T.a;have Tb:=T.b;have Tc:=T.c;rw[hp]at Ta Tb Tc;refine C.goR ht hp _ 1 v (by omega) (by constructor <;> simp[cnt,inS,inL,wait3,ok3,joining]) (by simp[Has]) ?_ ?_ ?_
 ·trivial
 ·exact fun _=>trivial
 ·obtain ⟨h3,hb,x,l,hx,hr2,hl,hT⟩:=Tb
  rcases hT with ⟨h1,h2,h4⟩|⟨h1,_⟩
  ·refine ⟨h3,hb,x,l,hx,by rw[rset_ne _ _ (by omega)];exact hr2,hl,.inl ⟨by omega,h2,?_⟩⟩;exact ⟨s.reg t 0,h4.1,by rw[rset_same,hv,h4.2.1],fun ho=>(h4.2.2 ho).2⟩
  ·omega
theorem g_wx15(C:Core X s p old L B)(ht:t<X.n){g:Bool}(hp:p t=.wx g 15){v:Int}(hv:v=256):Core X (s.setR t 0 v) (upd p t (.wx g 16)) old L B:=by
 have T:=C.th t ht;have Ta:=T.a;have Tb:=T.b;have Tc:=T.c;rw[hp]at Ta Tb Tc;refine C.goR ht hp _ 0 v (by omega) (by constructor <;> simp[cnt,inS,inL,wait3,ok3,joining]) (by simp[Has]) ?_ ?_ ?_
 ·trivial
 ·exact fun _=>trivial
 ·obtain ⟨h3,hb,x,l,hx,hr2,hl,hT⟩:=Tb
  rcases hT with ⟨h1,h2,h4⟩|⟨h1,_⟩
  ·refine ⟨h3,hb,x,l,hx,by rw[rset_ne _ _ (by omega)];exact hr2,hl,.inl ⟨by omega,h2,?_⟩⟩;obtain ⟨v',q1,q2,q3⟩:=h4;exact ⟨(rset_same _ _ _).trans hv,v',q1,by rw[rset_ne _ _ (by omega)];exact q2,q3⟩
  ·omega
theorem g_wx16(C:Core X s p old L B)(ht:t<X.n){g:Bool}(hp:p t=.wx g 16){v:Int}(hv:v=sum2 4 (s.reg t 1) (s.reg t 0)):Core X (s.setR t 1 v) (upd p t (.wx g 17)) old L B:=by
 have T:=C.th t ht;have Ta:=T.a;have Tb:=T.b;have Tc:=T.c;rw[hp]at Ta Tb Tc;have hH:=C.h0 Tb.1;refine C.goR ht hp _ 1 v (by omega) (by constructor <;> simp[cnt,inS,inL,wait3,ok3,joining]) (by simp[Has]) ?_ ?_ ?_
 ·trivial
 ·exact fun _=>trivial
 ·obtain ⟨h3,hb,x,l,hx,hr2,hl,hT⟩:=Tb
  rcases hT with ⟨h1,h2,h4⟩|⟨h1,_⟩
  ·refine ⟨h3,hb,x,l,hx,by rw[rset_ne _ _ (by omega)];exact hr2,hl,.inl ⟨by omega,h2,?_⟩⟩;obtain ⟨q0,v',q1,q2,q3⟩:=h4;intro e ho;rw[rset_same,hv,q0,q2]at e;have:=scanBit q1 hH e;rw[←this];exact q3 ho
  ·omega
theorem g_wx17j(C:Core X s p old L B)(ht:t<X.n){g:Bool}(hp:p t=.wx g 17)(h0:s.reg t 1=0):Core X s (upd p t (.wx g 19)) old L B:=by
 have T:=C.th t ht;have Ta:=T.a;have Tb:=T.b;have Tc:=T.c;rw[hp]at Ta Tb Tc;refine C.go0 ht hp _ (by constructor <;> simp[cnt,inS,inL,wait3,ok3,joining]) (by simp[Has]) ?_ ?_ ?_
 ·trivial
 ·exact fun _=>trivial
 ·obtain ⟨h3,hb,x,l,hx,hr2,hl,hT⟩:=Tb
  rcases hT with ⟨h1,h2,h4⟩|⟨h1,_⟩
  ·refine ⟨h3,hb,x,l,hx,hr2,hl,.inr ⟨.inl rfl,fun r hr ho=>?_⟩⟩
   rcases h2 r hr ho with ⟨a,b⟩|a
   ·by_cases e:r=x
    ·subst e;right;have hq:=h4 h0 ho;unfold Ps;cases g
     ·exact hq
     ·have hH:=C.h0 h3
      rcases h2 r hr ho with ⟨_,b'⟩|b'
      ·have hb':X.Prot s r (phi (258 - s.val X.hub 0)):=b';have e1:=hq.1.2;have e2:=hb'.1.2;show False
       rcases hH with hH|hH <;> rw[hH]at e1 e2 <;> omega
      ·exact b'.elim
    ·exact .inl ⟨a.resolve_left e,b⟩
   ·exact .inr a
  ·omega
theorem g_wx17f(C:Core X s p old L B)(ht:t<X.n){g:Bool}(hp:p t=.wx g 17)(h0:s.reg t 1≠0):Core X s (upd p t (.wx g 18)) old L B:=by
 have T:=C.th t ht;have Ta:=T.a;have Tb:=T.b;have Tc:=T.c;rw[hp]at Ta Tb Tc;refine C.go0 ht hp _ (by constructor <;> simp[cnt,inS,inL,wait3,ok3,joining]) (by simp[Has]) ?_ ?_ ?_
 ·trivial
 ·exact fun _=>trivial
 ·obtain ⟨h3,hb,x,l,hx,hr2,hl,hT⟩:=Tb
  rcases hT with ⟨h1,h2,h4⟩|⟨h1,_⟩
  ·refine ⟨h3,hb,x,l,hx,hr2,hl,.inl ⟨by omega,h2,?_⟩⟩;trivial
  ·omega
theorem g_wx18(C:Core X s p old L B)(ht:t<X.n){g:Bool}(hp:p t=.wx g 18):Core X s (upd p t (.wx g 8)) old L B:=by
 have T:=C.th t ht;have Ta:=T.a;have Tb:=T.b;have Tc:=T.c;rw[hp]at Ta Tb Tc;refine C.go0 ht hp _ (by constructor <;> simp[cnt,inS,inL,wait3,ok3,joining]) (by simp[Has]) ?_ ?_ ?_
 ·trivial
 ·exact fun _=>trivial
 ·obtain ⟨h3,hb,x,l,hx,hr2,hl,hT⟩:=Tb
  rcases hT with ⟨h1,h2,h4⟩|⟨h1,_⟩
  ·refine ⟨h3,hb,x,l,hx,hr2,hl,.inl ⟨by omega,h2,?_⟩⟩;trivial
  ·omega
theorem g_wx19(C:Core X s p old L B)(ht:t<X.n){g:Bool}(hp:p t=.wx g 19):Core X s (upd p t (.wx g 20)) old L B:=by
 have T:=C.th t ht;have Ta:=T.a;have Tb:=T.b;have Tc:=T.c;rw[hp]at Ta Tb Tc;refine C.go0 ht hp _ (by constructor <;> simp[cnt,inS,inL,wait3,ok3,joining]) (by simp[Has]) ?_ ?_ ?_
 ·trivial
 ·exact fun _=>trivial
 ·obtain ⟨h3,hb,x,l,hx,hr2,hl,hT⟩:=Tb
  rcases hT with ⟨h1,_⟩|⟨_,h2⟩
  ·omega
  ·exact ⟨h3,hb,x,l,hx,hr2,hl,.inr ⟨.inr rfl,h2⟩⟩
theorem g_wx20(C:Core X s p old L B)(ht:t<X.n){g:Bool}(hp:p t=.wx g 20){v:Int}(hv:v=s.vw t (s.reg t 2) 1):Core X (s.setR t 2 v) (upd p t (.wn g 21)) old L B:=by
 have T:=C.th t ht;have Ta:=T.a;have Tb:=T.b;have Tc:=T.c;rw[hp]at Ta Tb Tc;refine C.goR ht hp _ 2 v (by omega) (by constructor <;> simp[cnt,inS,inL,wait3,ok3,joining]) (by simp[Has]) ?_ ?_ ?_
 ·trivial
 ·exact fun _=>trivial
 ·obtain ⟨h3,hb,x,l,hx,hr2,hl,hT⟩:=Tb
  rcases hT with ⟨h1,_⟩|⟨_,h2⟩
  ·omega
  ·exact ⟨h3,hb,l,by rw[rset_same,hv,vw_nil hb,hr2];exact hl,h2⟩
theorem g_wn21(C:Core X s p old L B)(ht:t<X.n){g:Bool}(hp:p t=.wn g 21):Core X s (upd p t (.wn g 6)) old L B:=by
 have T:=C.th t ht;have Ta:=T.a;have Tb:=T.b;have Tc:=T.c;rw[hp]at Ta Tb Tc;refine C.go0 ht hp _ (by constructor <;> simp[cnt,inS,inL,wait3,ok3,joining]) (by simp[Has]) ?_ ?_ ?_
 ·trivial
 ·exact fun _=>trivial
 ·exact Tb
theorem g_wn22f(C:Core X s p old L B)(ht:t<X.n)(hp:p t=.wn false 22):Core X s (upd p t (.wn true 0)) old L B:=by
 have T:=C.th t ht;have Ta:=T.a;have Tb:=T.b;have Tc:=T.c;rw[hp]at Ta Tb Tc;refine C.go0 ht hp _ (by constructor <;> simp[cnt,inS,inL,wait3,ok3,joining]) (by simp[Has]) ?_ ?_ ?_
 ·trivial
 ·exact fun _=>trivial
 ·refine ⟨Tb.1,Tb.2.1,fun r hr ho=>?_⟩;have:=Tb.2.2 r hr ho;show X.Prot s r (phi (258 - (258 - s.val X.hub 0)));rw[show 258 - (258 - s.val X.hub 0)=s.val X.hub 0 from by omega];exact this
theorem g_wn22t(C:Core X s p old L B)(ht:t<X.n)(hp:p t=.wn true 22):Core X s (upd p t (.we)) old L B:=by
 have T:=C.th t ht;have Ta:=T.a;have Tb:=T.b;have Tc:=T.c;rw[hp]at Ta Tb Tc;refine C.go0 ht hp _ (by constructor <;> simp[cnt,inS,inL,wait3,ok3,joining]) (by simp[Has]) ?_ ?_ ?_
 ·trivial
 ·exact fun _=>trivial
 ·exact ⟨Tb.1,Tb.2.1,fun r hr ho=>Tb.2.2 r hr ho⟩
theorem g_we(C:Core X s p old L B)(ht:t<X.n)(hp:p t=.we):Core X s (upd p t (.gv 1 0)) old L B:=by
 have T:=C.th t ht;have Ta:=T.a;have Tb:=T.b;have Tc:=T.c;rw[hp]at Ta Tb Tc;refine C.go0 ht hp _ (by constructor <;> simp[cnt,inS,inL,wait3,ok3,joining]) (by simp[Has]) ?_ ?_ ?_
 ·trivial
 ·exact fun _=>trivial
 ·show (if (1:Nat)=0 then X.LGv0 (s.reg t) (s.buf t) s.val L t 0 else X.LGv (s.reg t) (s.buf t) (old t) 1 0);rw[if_neg (by omega)];exact ⟨.inl ⟨rfl,Tb.1⟩,Tb.2.2,fun _=>Tb.2.1,fun e=>by omega,fun e=>by omega,by omega⟩
end Qg
end
section
namespace Qg
open Qs
variable {X:Cx}{s s':A}{p:Nat→Pos}{old old':Nat→Nat→Prop}{L L':List Nat}{B:Int}{t u:Nat}
theorem g_rs0(C:Core X s p old L B)(ht:t<X.n)(hp:p t=.rs 0){v:Int}(hv:v=s.vw t X.hub 0):Core X (s.setR t 0 v) (upd p t (.rs 1)) old L B:=by
 have T:=C.th t ht;have Ta:=T.a;have Tb:=T.b;have Tc:=T.c;rw[hp]at Ta Tb Tc;refine C.goR ht hp _ 0 v (by omega) (by constructor <;> simp[cnt,inS,inL,wait3,ok3,joining]) (by simp[Has]) ?_ ?_ ?_
 ·exact (by show 1<3;omega)
 ·intro f;have:=C.h3 f;show 1≤rset _ _ _ _∧rset _ _ _ _≤_;rw[rset_same,hv,T.hub (by rw[hp];simp[Has])];omega
 ·exact Tb
theorem g_gn0(C:Core X s p old L B)(ht:t<X.n)(hp:p t=.gn 0){v:Int}(hv:v=0):Core X (s.setR t 0 v) (upd p t (.gn 1)) old L B:=by
 have T:=C.th t ht;have Ta:=T.a;have Tb:=T.b;have Tc:=T.c;rw[hp]at Ta Tb Tc;refine C.goR ht hp _ 0 v (by omega) (by constructor <;> simp[cnt,inS,inL,wait3,ok3,joining]) (by simp[Has]) ?_ ?_ ?_
 ·exact (by show 1<3;omega)
 ·exact fun _=>trivial
 ·exact Tb
theorem g_ca0(C:Core X s p old L B)(ht:t<X.n)(hp:p t=.ca 0){v:Int}(hv:v=0):Core X (s.setR t 0 v) (upd p t (.ca 1)) old L B:=by
 have T:=C.th t ht;have Ta:=T.a;have Tb:=T.b;have Tc:=T.c;rw[hp]at Ta Tb Tc;refine C.goR ht hp _ 0 v (by omega) (by constructor <;> simp[cnt,inS,inL,wait3,ok3,joining]) (by simp[Has]) ?_ ?_ ?_
 ·exact (by show 1<3;omega)
 ·exact fun _=>trivial
 ·exact Tb
theorem g_cr0(C:Core X s p old L B)(ht:t<X.n)(hp:p t=.cr 0){v:Int}(hv:v=s.vw t X.hub 0):Core X (s.setR t 0 v) (upd p t (.cr 1)) old L B:=by
 have T:=C.th t ht;have Ta:=T.a;have Tb:=T.b;have Tc:=T.c;rw[hp]at Ta Tb Tc;refine C.goR ht hp _ 0 v (by omega) (by constructor <;> simp[cnt,inS,inL,wait3,ok3,joining]) (by simp[Has]) ?_ ?_ ?_
 ·exact (by show 1<3;omega)
 ·intro f;have h3:=C.h3 f;have hb:s.buf t=[]:=Tc f;refine ⟨hb,?_⟩;rw[rset_same,hv,vw_nil hb];omega
 ·exact Tb
theorem g_cs0(C:Core X s p old L B)(ht:t<X.n)(hp:p t=.cs 0){v:Int}(hv:v=s.vw t X.hub 0):Core X (s.setR t 0 v) (upd p t (.cs 1)) old L B:=by
 have T:=C.th t ht;have Ta:=T.a;have Tb:=T.b;have Tc:=T.c;rw[hp]at Ta Tb Tc;refine C.goR ht hp _ 0 v (by omega) (by constructor <;> simp[cnt,inS,inL,wait3,ok3,joining]) (by simp[Has]) ?_ ?_ ?_
 ·trivial
 ·exact fun _=>trivial
 ·exact ⟨Tb.1,Tb.2,by rw[rset_same,hv,vw_nil Tb.2]⟩
theorem g_cs1(C:Core X s p old L B)(ht:t<X.n)(hp:p t=.cs 1){v:Int}(hv:v=2):Core X (s.setR t 1 v) (upd p t (.cs 2)) old L B:=by
 have T:=C.th t ht;have Ta:=T.a;have Tb:=T.b;have Tc:=T.c;rw[hp]at Ta Tb Tc;refine C.goR ht hp _ 1 v (by omega) (by constructor <;> simp[cnt,inS,inL,wait3,ok3,joining]) (by simp[Has]) ?_ ?_ ?_
 ·trivial
 ·exact fun _=>trivial
 ·exact ⟨Tb.1,Tb.2.1,(rset_ne _ _ (by omega)).trans Tb.2.2,(rset_same _ _ _).trans hv⟩
theorem g_cs2(C:Core X s p old L B)(ht:t<X.n)(hp:p t=.cs 2)(hB:B<4000000000){v:Int}(hv:v=sum2 2 (s.reg t 0) (s.reg t 1)):Core X (s.setR t 0 v) (upd p t (.cs 3)) old L B:=by
 have T:=C.th t ht;have Ta:=T.a;have Tb:=T.b;have Tc:=T.c;rw[hp]at Ta Tb Tc;refine C.goR ht hp _ 0 v (by omega) (by constructor <;> simp[cnt,inS,inL,wait3,ok3,joining]) (by simp[Has]) ?_ ?_ ?_
 ·trivial
 ·exact fun _=>trivial
 ·exact ⟨Tb.1,Tb.2.1,by rw[rset_same,hv,Tb.2.2.1,Tb.2.2.2,add2 (by have:=C.h3 Tb.1;omega)]⟩
theorem g_cs4(C:Core X s p old L B)(ht:t<X.n)(hp:p t=.cs 4)(hbf:s.buf t=[]):Core X s (upd p t (.cs 5)) old L B:=by
 have T:=C.th t ht;have Ta:=T.a;have Tb:=T.b;have Tc:=T.c;rw[hp]at Ta Tb Tc;refine C.go0 ht hp _ (by constructor <;> simp[cnt,inS,inL,wait3,ok3,joining]) (by simp[Has]) ?_ ?_ ?_
 ·trivial
 ·exact fun _=>trivial
 ·obtain ⟨h3,V,hb,hT⟩:=Tb
  rcases hb with ⟨hb,_⟩|⟨_,hb⟩
  ·rw[hbf]at hb;cases hb
  ·rw[←hb]at hT;exact ⟨h3,hbf,hT⟩
theorem g_cs5(C:Core X s p old L B)(ht:t<X.n)(hp:p t=.cs 5){v:Int}(hv:v=s.vw t X.hub 2):Core X (s.setR t 2 v) (upd p t (.cs 6)) old L B:=by
 have T:=C.th t ht;have Ta:=T.a;have Tb:=T.b;have Tc:=T.c;rw[hp]at Ta Tb Tc;refine C.goR ht hp _ 2 v (by omega) (by constructor <;> simp[cnt,inS,inL,wait3,ok3,joining]) (by simp[Has]) ?_ ?_ ?_
 ·trivial
 ·exact fun _=>trivial
 ·refine ⟨Tb.1,Tb.2.1,L,by rw[rset_same,hv,vw_nil Tb.2.1];exact C.ch,fun r hr ho=>⟨C.all (by have:=Tb.1;omega) r hr,Tb.2.2 r hr ho⟩⟩
theorem g_cs6(C:Core X s p old L B)(ht:t<X.n)(hp:p t=.cs 6):Core X s (upd p t (.cs 7)) old L B:=by
 have T:=C.th t ht;have Ta:=T.a;have Tb:=T.b;have Tc:=T.c;rw[hp]at Ta Tb Tc;refine C.go0 ht hp _ (by constructor <;> simp[cnt,inS,inL,wait3,ok3,joining]) (by simp[Has]) ?_ ?_ ?_
 ·exact Ta
 ·exact fun _=>trivial
 ·exact Tb
theorem g_cs7j(C:Core X s p old L B)(ht:t<X.n)(hp:p t=.cs 7)(h0:s.reg t 2=0)(O:∀r,r<X.n→X.own r≠0):Core X s (upd p t (.cs 17)) old L B:=by
 have T:=C.th t ht;have Ta:=T.a;have Tb:=T.b;have Tc:=T.c;rw[hp]at Ta Tb Tc;refine C.go0 ht hp _ (by constructor <;> simp[cnt,inS,inL,wait3,ok3,joining]) (by simp[Has]) ?_ ?_ ?_
 ·trivial
 ·exact fun _=>trivial
 ·obtain ⟨h3,hb,l,hl,hT⟩:=Tb
  cases l with
  |cons x l=>exact absurd (hl.1.symm.trans h0) (O x hl.2.1)
  |nil=>exact ⟨h3,hb,fun r hr ho=>by have:=(hT r hr ho).1;simp at this⟩
theorem g_cs7f(C:Core X s p old L B)(ht:t<X.n)(hp:p t=.cs 7)(h0:s.reg t 2≠0):Core X s (upd p t (.cx 8)) old L B:=by
 have T:=C.th t ht;have Ta:=T.a;have Tb:=T.b;have Tc:=T.c;rw[hp]at Ta Tb Tc;refine C.go0 ht hp _ (by constructor <;> simp[cnt,inS,inL,wait3,ok3,joining]) (by simp[Has]) ?_ ?_ ?_
 ·trivial
 ·exact fun _=>trivial
 ·obtain ⟨h3,hb,l,hl,hT⟩:=Tb
  cases l with
  |nil=>exact absurd hl h0
  |cons x l=>exact ⟨h3,hb,x,l,hl.2.1,hl.1,hl.2.2,.inl ⟨by omega,fun r hr ho=>⟨by simpa using (hT r hr ho).1,(hT r hr ho).2⟩⟩,fun e=>by omega,fun e=>by omega⟩
theorem g_cx8(C:Core X s p old L B)(ht:t<X.n)(hp:p t=.cx 8):Core X s (upd p t (.cx 9)) old L B:=by
 have T:=C.th t ht;have Ta:=T.a;have Tb:=T.b;have Tc:=T.c;rw[hp]at Ta Tb Tc;refine C.go0 ht hp _ (by constructor <;> simp[cnt,inS,inL,wait3,ok3,joining]) (by simp[Has]) ?_ ?_ ?_
 ·trivial
 ·exact fun _=>trivial
 ·obtain ⟨h3,hb,x,l,hx,hr2,hl,hT,h6,h7⟩:=Tb;have h2:=hT.resolve_right (fun e=>by omega);exact ⟨h3,hb,x,l,hx,hr2,hl,.inl ⟨by omega,h2.2⟩,fun e=>by omega,fun e=>by omega⟩
theorem g_cx9(C:Core X s p old L B)(ht:t<X.n)(hp:p t=.cx 9){v:Int}(hv:v=s.vw t (s.reg t 2) 0):Core X (s.setR t 0 v) (upd p t (.cx 10)) old L B:=by
 have T:=C.th t ht;have Ta:=T.a;have Tb:=T.b;have Tc:=T.c;rw[hp]at Ta Tb Tc;refine C.goR ht hp _ 0 v (by omega) (by constructor <;> simp[cnt,inS,inL,wait3,ok3,joining]) (by simp[Has]) ?_ ?_ ?_
 ·trivial
 ·exact fun _=>trivial
 ·obtain ⟨h3,hb,x,l,hx,hr2,hl,hT,h6,h7⟩:=Tb;have h2:=hT.resolve_right (fun e=>by omega);refine ⟨h3,hb,x,l,hx,by rw[rset_ne _ _ (by omega)];exact hr2,hl,.inl ⟨by omega,h2.2⟩,fun _ _ ho=>?_,fun e=>by omega⟩;rw[rset_same,hv,vw_nil hb,hr2];exact (h2.2 x hx ho).2.1
theorem g_cx10j(C:Core X s p old L B)(ht:t<X.n)(hp:p t=.cx 10)(h0:s.reg t 0=0):Core X s (upd p t (.cx 14)) old L B:=by
 have T:=C.th t ht;have Ta:=T.a;have Tb:=T.b;have Tc:=T.c;rw[hp]at Ta Tb Tc;refine C.go0 ht hp _ (by constructor <;> simp[cnt,inS,inL,wait3,ok3,joining]) (by simp[Has]) ?_ ?_ ?_
 ·trivial
 ·exact fun _=>trivial
 ·obtain ⟨h3,hb,x,l,hx,hr2,hl,hT,h6,h7⟩:=Tb;have h2:=hT.resolve_right (fun e=>by omega);refine ⟨h3,hb,x,l,hx,hr2,hl,.inr ⟨.inl rfl,fun r hr ho=>?_⟩,fun e=>by omega,fun e=>by omega⟩;refine ⟨(h2.2 r hr ho).1.resolve_left fun e=>?_,(h2.2 r hr ho).2⟩;subst e
  have:=h6 (by omega) (by omega) ho;unfold lt3 at this;omega
theorem g_cx10f(C:Core X s p old L B)(ht:t<X.n)(hp:p t=.cx 10)(h0:s.reg t 0≠0):Core X s (upd p t (.cx 11)) old L B:=by
 have T:=C.th t ht;have Ta:=T.a;have Tb:=T.b;have Tc:=T.c;rw[hp]at Ta Tb Tc;refine C.go0 ht hp _ (by constructor <;> simp[cnt,inS,inL,wait3,ok3,joining]) (by simp[Has]) ?_ ?_ ?_
 ·trivial
 ·exact fun _=>trivial
 ·obtain ⟨h3,hb,x,l,hx,hr2,hl,hT,h6,h7⟩:=Tb;have h2:=hT.resolve_right (fun e=>by omega);exact ⟨h3,hb,x,l,hx,hr2,hl,.inl ⟨by omega,h2.2⟩,fun _ _=>h6 (by omega) (by omega),fun e=>by omega⟩
theorem g_cx11(C:Core X s p old L B)(ht:t<X.n)(hp:p t=.cx 11){v:Int}(hv:v=s.vw t X.hub 0):Core X (s.setR t 1 v) (upd p t (.cx 12)) old L B:=by
 have T:=C.th t ht;have Ta:=T.a;have Tb:=T.b;have Tc:=T.c;rw[hp]at Ta Tb Tc;refine C.goR ht hp _ 1 v (by omega) (by constructor <;> simp[cnt,inS,inL,wait3,ok3,joining]) (by simp[Has]) ?_ ?_ ?_
 ·trivial
 ·exact fun _=>trivial
 ·obtain ⟨h3,hb,x,l,hx,hr2,hl,hT,h6,h7⟩:=Tb;have h2:=hT.resolve_right (fun e=>by omega);exact ⟨h3,hb,x,l,hx,by rw[rset_ne _ _ (by omega)];exact hr2,hl,.inl ⟨by omega,h2.2⟩,fun _ _ ho=>by rw[rset_ne _ _ (by omega)];exact h6 (by omega) (by omega) ho,fun _=>by rw[rset_same,hv,vw_nil hb]⟩
theorem g_cx12j(C:Core X s p old L B)(ht:t<X.n)(hp:p t=.cx 12)(h0:s.reg t 0=s.reg t 1):Core X s (upd p t (.cx 14)) old L B:=by
 have T:=C.th t ht;have Ta:=T.a;have Tb:=T.b;have Tc:=T.c;rw[hp]at Ta Tb Tc;refine C.go0 ht hp _ (by constructor <;> simp[cnt,inS,inL,wait3,ok3,joining]) (by simp[Has]) ?_ ?_ ?_
 ·trivial
 ·exact fun _=>trivial
 ·obtain ⟨h3,hb,x,l,hx,hr2,hl,hT,h6,h7⟩:=Tb;have h2:=hT.resolve_right (fun e=>by omega);refine ⟨h3,hb,x,l,hx,hr2,hl,.inr ⟨.inl rfl,fun r hr ho=>?_⟩,fun e=>by omega,fun e=>by omega⟩;refine ⟨(h2.2 r hr ho).1.resolve_left fun e=>?_,(h2.2 r hr ho).2⟩;subst e
  have:=h6 (by omega) (by omega) ho;have:=h7 rfl;unfold lt3 at *;omega
theorem g_cx12f(C:Core X s p old L B)(ht:t<X.n)(hp:p t=.cx 12)(h0:s.reg t 0≠s.reg t 1):Core X s (upd p t (.cx 13)) old L B:=by
 have T:=C.th t ht;have Ta:=T.a;have Tb:=T.b;have Tc:=T.c;rw[hp]at Ta Tb Tc;refine C.go0 ht hp _ (by constructor <;> simp[cnt,inS,inL,wait3,ok3,joining]) (by simp[Has]) ?_ ?_ ?_
 ·trivial
 ·exact fun _=>trivial
 ·obtain ⟨h3,hb,x,l,hx,hr2,hl,hT,h6,h7⟩:=Tb;have h2:=hT.resolve_right (fun e=>by omega);exact ⟨h3,hb,x,l,hx,hr2,hl,.inl ⟨by omega,h2.2⟩,fun e=>by omega,fun e=>by omega⟩
theorem g_cx13(C:Core X s p old L B)(ht:t<X.n)(hp:p t=.cx 13):Core X s (upd p t (.cx 8)) old L B:=by
 have T:=C.th t ht;have Ta:=T.a;have Tb:=T.b;have Tc:=T.c;rw[hp]at Ta Tb Tc;refine C.go0 ht hp _ (by constructor <;> simp[cnt,inS,inL,wait3,ok3,joining]) (by simp[Has]) ?_ ?_ ?_
 ·trivial
 ·exact fun _=>trivial
 ·obtain ⟨h3,hb,x,l,hx,hr2,hl,hT,h6,h7⟩:=Tb;have h2:=hT.resolve_right (fun e=>by omega);exact ⟨h3,hb,x,l,hx,hr2,hl,.inl ⟨by omega,h2.2⟩,fun e=>by omega,fun e=>by omega⟩
theorem g_cx14(C:Core X s p old L B)(ht:t<X.n)(hp:p t=.cx 14):Core X s (upd p t (.cx 15)) old L B:=by
 have T:=C.th t ht;have Ta:=T.a;have Tb:=T.b;have Tc:=T.c;rw[hp]at Ta Tb Tc;refine C.go0 ht hp _ (by constructor <;> simp[cnt,inS,inL,wait3,ok3,joining]) (by simp[Has]) ?_ ?_ ?_
 ·trivial
 ·exact fun _=>trivial
 ·obtain ⟨h3,hb,x,l,hx,hr2,hl,hT,h6,h7⟩:=Tb;have h2:=hT.resolve_left (fun e=>by omega);exact ⟨h3,hb,x,l,hx,hr2,hl,.inr ⟨.inr rfl,h2.2⟩,fun e=>by omega,fun e=>by omega⟩
theorem g_cx15(C:Core X s p old L B)(ht:t<X.n)(hp:p t=.cx 15){v:Int}(hv:v=s.vw t (s.reg t 2) 1):Core X (s.setR t 2 v) (upd p t (.cs 16)) old L B:=by
 have T:=C.th t ht;have Ta:=T.a;have Tb:=T.b;have Tc:=T.c;rw[hp]at Ta Tb Tc;refine C.goR ht hp _ 2 v (by omega) (by constructor <;> simp[cnt,inS,inL,wait3,ok3,joining]) (by simp[Has]) ?_ ?_ ?_
 ·trivial
 ·exact fun _=>trivial
 ·obtain ⟨h3,hb,x,l,hx,hr2,hl,hT,h6,h7⟩:=Tb;have h2:=hT.resolve_left (fun e=>by omega);exact ⟨h3,hb,l,by rw[rset_same,hv,vw_nil hb,hr2];exact hl,h2.2⟩
theorem g_cs16(C:Core X s p old L B)(ht:t<X.n)(hp:p t=.cs 16):Core X s (upd p t (.cs 6)) old L B:=by
 have T:=C.th t ht;have Ta:=T.a;have Tb:=T.b;have Tc:=T.c;rw[hp]at Ta Tb Tc;refine C.go0 ht hp _ (by constructor <;> simp[cnt,inS,inL,wait3,ok3,joining]) (by simp[Has]) ?_ ?_ ?_
 ·trivial
 ·exact fun _=>trivial
 ·exact Tb
theorem g_cs17(C:Core X s p old L B)(ht:t<X.n)(hp:p t=.cs 17):Core X s (upd p t (.gv 2 0)) old L B:=by
 have T:=C.th t ht;have Ta:=T.a;have Tb:=T.b;have Tc:=T.c;rw[hp]at Ta Tb Tc;refine C.go0 ht hp _ (by constructor <;> simp[cnt,inS,inL,wait3,ok3,joining]) (by simp[Has]) ?_ ?_ ?_
 ·trivial
 ·exact fun _=>trivial
 ·show (if (2:Nat)=0 then X.LGv0 (s.reg t) (s.buf t) s.val L t 0 else X.LGv (s.reg t) (s.buf t) (old t) 2 0);rw[if_neg (by omega)];exact ⟨.inr ⟨rfl,Tb.1⟩,Tb.2.2,fun _=>Tb.2.1,fun e=>by omega,fun e=>by omega,by omega⟩
end Qg
end
section
namespace Qg
open Qs
variable {X:Cx}{s s':A}{p:Nat→Pos}{old old':Nat→Nat→Prop}{L L':List Nat}{B:Int}{t u:Nat}
theorem setB_buf(s:A)(t:Nat)(l:List En):(s.setB t l).buf t=l:=if_pos rfl
theorem setB_ne(s:A){t u:Nat}(l:List En)(h:u≠t):(s.setB t l).buf u=s.buf u:=if_neg h
theorem setB_prot{r:Nat}{l:List En}{φ : Int→Prop}(h:r≠t):X.Prot (s.setB t l) r φ↔X.Prot s r φ:=by
 unfold Cx.Prot;rw[setB_ne s l h];exact Iff.rfl
theorem push_prot{e:En}{φ : Int→Prop}(h:X.Prot s t φ)(he:e.a=X.own t→e.w=0→φ e.v):X.Prot (s.setB t (s.buf t++[e])) t φ:=by
 refine ⟨h.1,fun x hx=>?_⟩;rw[setB_buf]at hx
 rcases List.mem_append.1 hx with hx|hx
 ·exact h.2 x hx
 ·rw[List.mem_singleton.1 hx];exact he
theorem push_vw{e:En}(x:Int)(w:Nat):(s.setB t (s.buf t++[e])).vw t x w=if e.a=x∧e.w=w then e.v else s.vw t x w:=by
 unfold A.vw;rw[setB_buf,lk1_snoc];rfl
theorem Core.push(C:Core X s p old L B)(ht:t<X.n){P:Pos}(hp:p t=P)(q:Pos)(e:En)
  (hcl:∀c d,P≠.cl c d) (hhas:Has (s.reg t) (s.buf t++[e]) q↔Has (s.reg t) (s.buf t) P) (hj:¬joining q→¬joining P)
  (hbuf:¬Has (s.reg t) (s.buf t) P→e.a=X.own t∧e.w=0)
  (hvw:X.f≠3→(if e.a=X.own t∧e.w=0 then e.v else s.vw t (X.own t) 0) % 256=cnt q)
  (hrng:X.f≠3→e.a=X.own t→e.w=0→v512 e.v)
  (hsec:X.f≠3→X.f≠2→inS q→inS P∧∀h,X.Prot s t (phi h)→e.a=X.own t→e.w=0→phi h e.v)
  (hil:X.f=4→inL q→t∈L) (hnb:X.f=3→¬wait3 q→Has (s.reg t) (s.buf t) P)
  (hok:X.f=3→ok3 q→ok3 P) (h3:X.f=3→e.a=X.hub→e.w=0→e.v≤B)
  (ha:LocA (s.reg t) (if e.a=X.own t∧e.w=0 then e.v else s.vw t (X.own t) 0) (s.buf t++[e]) q)
  (hc:X.f=3→LocC (s.reg t) (if e.a=X.own t∧e.w=0 then e.v else s.vw t (X.own t) 0) (s.val X.hub 0) (s.buf t++[e]) (X.own t) q)
  (hb:∀PR:Nat→(Int→Prop)→Prop,(∀r φ,r≠t→X.Prot s r φ→PR r φ)→(∀r,r<X.n→old t r→r≠t)→X.LocB (s.reg t) (s.buf t++[e]) s.val PR (old t) L t q) :
  Core X (s.setB t (s.buf t++[e])) (upd p t q) old L B:=by
 have T:=C.th t ht;subst hp
 have hno:∀r,r<X.n→old t r→r≠t:=fun r hr ho e=>by
  obtain ⟨c,d,h,_⟩:=C.old t r ht hr ho;rw[e]at h;exact hcl c d h
 refine C.move ht q (fun _ _=>rfl) (fun u hu=>setB_ne s _ hu) rfl hcl (by rw[setB_buf];exact hhas) (fun f e=>C.j f t ht (hj e)) (fun f=>?_) ?_
 ·rw[setB_buf];intro x hx a b
  rcases List.mem_append.1 hx with hx|hx
  ·exact C.hb3 f t ht x hx a b
  ·rw[List.mem_singleton.1 hx]at a b ⊢;exact h3 f a b
 refine ⟨T.r6,T.r7,?_,fun f=>by rw[push_vw];exact hvw f,fun f=>push_prot (T.rng f) (hrng f),fun f g e=>?_,hil,?_,fun f e=>T.ok f (hok f e),?_,?_,?_⟩
 ·rw[setB_buf];intro h x hx hg;have h':¬Has (s.reg t) (s.buf t) (p t):=fun g=>h (hhas.2 g)
  rcases List.mem_append.1 hx with hx|hx
  ·exact T.buf h' x hx hg
  ·rw[List.mem_singleton.1 hx];exact hbuf h'
 ·obtain ⟨h1,h2⟩:=hsec f g e
  rcases T.sec f g h1 with h|h
  ·exact .inl (push_prot h (h2 _ h))
  ·exact .inr (push_prot h (h2 _ h))
 ·rw[setB_buf];intro f h1 h2;exact absurd (hhas.2 (hnb f h1)) h2
 ·rw[push_vw,setB_buf];exact ha
 ·rw[push_vw,setB_buf];exact hc
 ·rw[setB_buf];exact hb (X.Prot (s.setB t (s.buf t++[e]))) (fun r φ hr h=>(setB_prot hr).2 h) hno
theorem own_if(x:Cx)(t:Nat)(v w:Int):(if (⟨x.own t,0,v⟩:En).a=x.own t∧(⟨x.own t,0,v⟩:En).w=0 then (⟨x.own t,0,v⟩:En).v else w)=v:=if_pos ⟨rfl,rfl⟩
theorem hub_if(x:Cx)(t k:Nat)(v w:Int):(if (⟨x.hub,k,v⟩:En).a=x.own t∧(⟨x.hub,k,v⟩:En).w=0 then (⟨x.hub,k,v⟩:En).v else w)=w:=if_neg fun h=>x.ne t h.1.symm
theorem own_if2(x:Cx)(t k:Nat)(v w:Int)(hk:k≠0):(if (⟨x.own t,k,v⟩:En).a=x.own t∧(⟨x.own t,k,v⟩:En).w=0 then (⟨x.own t,k,v⟩:En).v else w)=w:=if_neg fun h=>hk h.2
theorem Core.cv(C:Core X s p old L B)(ht:t<X.n)(f:X.f≠3){P:Pos}(hp:p t=P):s.vw t (X.own t) 0 % 256=cnt P∧v512 (s.vw t (X.own t) 0):=by
 have T:=C.th t ht;have h1:=T.vw f;rw[hp]at h1;exact ⟨h1,Prot.vw (T.rng f)⟩
theorem g_ent6(C:Core X s p old L B)(ht:t<X.n){d:Nat}(hp:p t=.ent d 6){v:Int}(hv:v=s.reg t 0):Core X (s.setB t (s.buf t++[⟨X.own t,0,v⟩])) (upd p t (.ent d 7)) old L B:=by
 have T:=C.th t ht;have Ta:=T.a;have Tb:=T.b;rw[hp]at Ta Tb;obtain ⟨h1,h2⟩:=C.cv ht Tb hp;obtain ⟨a1,a2,a3⟩:=Ta;have h1:s.vw t (X.own t) 0 % 256=(d:Int):=h1;have hw:=h2;unfold v512 at hw
 refine C.push ht hp _ _ (by simp) (by simp[Has]) (by simp[joining]) (fun _=>⟨rfl,rfl⟩) (fun _=>?_) (fun _ _ _=>?_) (fun f g e=>⟨by simp[inS,a2],fun h hh _ _=>?_⟩) (fun f _=>T.il f (by rw[hp];trivial)) (fun f=>absurd f Tb) (fun f=>absurd f Tb) (fun f=>absurd f Tb) ?_ (fun f=>absurd f Tb) (fun _ _ _=>Tb)
 ·rw[own_if];show v % 256=((d+1:Nat):Int);rw[hv,a1];omega
 ·show 0≤v∧v<512;rw[hv,a1];omega
 ·show phi h v;rw[hv,a1];exact phi_up a3 h1 (Prot.vw hh)
 ·exact a2
theorem g_ent10(C:Core X s p old L B)(ht:t<X.n){d:Nat}(hp:p t=.ent d 10){v:Int}(hv:v=s.reg t 0):Core X (s.setB t (s.buf t++[⟨X.own t,0,v⟩])) (upd p t (.ent d (if X.f=2 then 12 else 11))) old L B:=by
 have T:=C.th t ht;have Ta:=T.a;have Tb:=T.b;rw[hp]at Ta Tb;obtain ⟨a1,a2⟩:=Ta;subst a1
 have hc:cnt (.ent 0 (if X.f=2 then 12 else 11))=1:=by split <;> rfl
 refine C.push ht hp _ _ (by simp) (by simp[Has]) (by simp[joining]) (fun _=>⟨rfl,rfl⟩) (fun _=>?_) (fun _ _ _=>?_) (fun f g e=>?_) (fun f _=>T.il f (by rw[hp];trivial)) (fun f=>absurd f Tb) (fun f=>absurd f Tb) (fun f=>absurd f Tb) ?_ (fun f=>absurd f Tb) (fun _ _ _=>Tb)
 ·rw[own_if,hc,hv];show s.reg t 0 % 256=1;omega
 ·show 0≤v∧v<512;rw[hv];omega
 ·exfalso;rw[if_neg g]at e;simp[inS]at e
 ·by_cases f2:X.f=2
  ·rw[if_pos f2];trivial
  ·rw[if_neg f2];rfl
theorem g_lea4(C:Core X s p old L B)(ht:t<X.n){d:Nat}(hp:p t=.lea d 4){v:Int}(hv:v=s.reg t 0){q:Pos}(hq:startD X.f q=some (d - 1))(hd:d - 1<100):Core X (s.setB t (s.buf t++[⟨X.own t,0,v⟩])) (upd p t q) old L B:=by
 have T:=C.th t ht;have Ta:=T.a;have Tb:=T.b;rw[hp]at Ta Tb;obtain ⟨h1,h2⟩:=C.cv ht Tb hp;obtain ⟨a1,a2⟩:=Ta;have h1:s.vw t (X.own t) 0 % 256=(d:Int):=h1;have hw:=h2;unfold v512 at hw;have Bq:=fun rg bf vl PR o v h0=>beg_of (X:=X) hq (by omega) rg bf vl PR o L t v h0
 refine C.push ht hp q _ (by simp) ⟨fun h=>absurd h (Bq _ _ s.val (X.Prot s) (old t) 0 0).h,fun h=>by simp[Has]at h⟩ (by simp[joining]) (fun _=>⟨rfl,rfl⟩) (fun f=>?_) (fun _ _ _=>?_) (fun f g e=>⟨?_,fun h hh _ _=>?_⟩) (fun f e=>T.il f ?_) (fun f=>absurd f Tb) (fun f=>absurd f Tb) (fun f=>absurd f Tb) (Bq _ _ s.val (X.Prot s) (old t) _ 0).a (fun f=>absurd f Tb) (fun PR _ _=>(Bq _ _ _ PR _ 0 0).b)
 ·rw[own_if,(Bq (s.reg t) [] s.val (X.Prot s) (old t) 0 0).n f,hv,a2];omega
 ·show 0≤v∧v<512;rw[hv,a2];omega
 ·exact a1
 ·have:=(Bq (s.reg t) [] s.val (X.Prot s) (old t) 0 0).s f e;show phi h v;rw[hv,a2];exact phi_dn (by omega) h1 (Prot.vw hh)
 ·rw[hp];exact a1
theorem g_jc1(C:Core X s p old L B)(ht:t<X.n)(hp:p t=.jc 1){v:Int}(hv:v=s.reg t 0):Core X (s.setB t (s.buf t++[⟨X.own t,1,v⟩])) (upd p t (.jc 2)) old L B:=by
 have T:=C.th t ht;have Tb:=T.b;rw[hp]at Tb;obtain ⟨f4,⟨i,F,hi,hb,j1,j2,j3,j4,j5⟩,hr⟩:=Tb
 have hi0:i=0:=by omega
 subst hi0;obtain ⟨k1,k2⟩:=j1 (by omega)
 have hb0:s.buf t=[]:=by rw[hb];rfl
 have hcv:=C.cv ht (by omega) hp
 refine C.push ht hp _ _ (by simp) (by simp[Has]) (by simp[joining]) (fun h=>absurd trivial h) (fun _=>?_) (fun _ _ e=>by cases e) (fun f g e=>absurd e (by simp[inS])) (fun f e=>absurd e (by simp[inL])) (fun _ _=>trivial) (fun f=>by omega) (fun f=>by omega) trivial (fun f=>trivial) (fun PR _ _=>⟨f4,0,F,by omega,?_,fun _=>⟨k1,k2⟩,fun a=>by omega,fun a=>by omega,fun _=>j4 (by omega),fun a=>by omega⟩)
 ·rw[own_if2 _ _ _ _ _ (by omega)];exact hcv.1
 ·rw[hb0,hv,hr,k2];rfl
theorem g_jc2(C:Core X s p old L B)(ht:t<X.n)(hp:p t=.jc 2){v:Int}(hv:v=s.reg t 6):Core X (s.setB t (s.buf t++[⟨X.hub,2,v⟩])) (upd p t (.jc 3)) old L B:=by
 have T:=C.th t ht;have Tb:=T.b;rw[hp]at Tb;obtain ⟨f4,i,F,hi,hb,j⟩:=Tb;have hcv:=C.cv ht (by omega) hp
 refine C.push ht hp _ _ (by simp) (by simp[Has]) (by simp[joining]) (fun h=>absurd trivial h) (fun _=>?_) (fun _ e=>absurd e.symm (X.ne t)) (fun f g e=>absurd e (by simp[inS])) (fun f e=>absurd e (by simp[inL])) (fun _ _=>trivial) (fun f=>by omega) (fun f=>by omega) trivial (fun f=>trivial) (fun PR _ _=>⟨f4,i,F,by omega,?_,j⟩)
 ·rw[hub_if];exact hcv.1
 ·rw[hb,hv,T.r6]
  rcases (by omega:i=0∨i=1)with rfl|rfl <;> rfl
theorem g_jc4(C:Core X s p old L B)(ht:t<X.n)(hp:p t=.jc 4){v:Int}(hv:v=s.reg t 0):Core X (s.setB t (s.buf t++[⟨X.own t,2,v⟩])) (upd p t (.gv 0 0)) old L B:=by
 have T:=C.th t ht;have Tb:=T.b;rw[hp]at Tb;obtain ⟨f4,⟨i,F,hi,hb,j⟩,hr⟩:=Tb;have hcv:=C.cv ht (by omega) hp
 refine C.push ht hp _ _ (by simp) (by simp[Has]) (by simp[joining]) (fun h=>absurd trivial h) (fun _=>?_) (fun _ _ e=>by cases e) (fun f g e=>absurd e (by simp[inS])) (fun f e=>absurd e (by simp[inL])) (fun _ _=>trivial) (fun f=>by omega) (fun f=>by omega) trivial (fun f=>trivial) (fun PR _ _=>⟨f4,i,F,by omega,?_,j⟩)
 ·rw[own_if2 _ _ _ _ _ (by omega)];exact hcv.1
 ·rw[hb,hv,hr]
  rcases (by omega:i=0∨i=1∨i=2)with rfl|rfl|rfl <;> rfl
theorem g_gv01(C:Core X s p old L B)(ht:t<X.n)(hp:p t=.gv 0 1){v:Int}(hv:v=s.reg t 0):Core X (s.setB t (s.buf t++[⟨X.hub,1,v⟩])) (upd p t (.gv 0 2)) old L B:=by
 have T:=C.th t ht;have Tb:=T.b;rw[hp]at Tb;obtain ⟨f4,⟨i,F,hi,hb,j⟩,hr⟩:=Tb;have hcv:=C.cv ht (by omega) hp
 refine C.push ht hp _ _ (by simp) (by simp[Has]) (by simp[joining]) (fun h=>absurd trivial h) (fun _=>?_) (fun _ e=>absurd e.symm (X.ne t)) (fun f g e=>absurd e (by simp[inS])) (fun f e=>absurd e (by simp[inL])) (fun f=>by omega) (fun f=>by omega) (fun f=>by omega) trivial (fun f=>trivial) (fun PR _ _=>⟨f4,i,F,by omega,?_,j⟩)
 ·rw[hub_if];exact hcv.1
 ·rw[hb,hv,hr]
  rcases (by omega:i=0∨i=1∨i=2∨i=3)with rfl|rfl|rfl|rfl <;> rfl
theorem g_gv1(C:Core X s p old L B)(ht:t<X.n){k:Nat}(hp:p t=.gv k 1)(hk:k≠0){v:Int}(hv:v=s.reg t 0):Core X (s.setB t (s.buf t++[⟨X.hub,1,v⟩])) (upd p t (.gv k 2)) old L B:=by
 have T:=C.th t ht;have Tb:=T.b;rw[hp]at Tb;have Tb':(if k=0 then X.LGv0 (s.reg t) (s.buf t) s.val L t 1 else X.LGv (s.reg t) (s.buf t) (old t) k 1):=Tb;rw[if_neg hk]at Tb';obtain ⟨hf,ho,hb,hr,_⟩:=Tb';obtain ⟨k,rfl⟩:∃j,k=j+1:=⟨k - 1,by omega⟩
 refine C.push ht hp _ _ (by simp) (by simp[Has]) (by simp[joining]) (fun h=>absurd trivial h) (fun f=>?_) (fun _ e=>absurd e.symm (X.ne t)) (fun f g e=>absurd e (by simp[inS])) (fun f e=>absurd e (by simp[inL])) (fun f _=>trivial) (fun f e=>absurd e (by simp[ok3])) (fun _ _ e=>by cases e) trivial (fun f=>trivial) (fun PR _ _=>?_)
 ·rw[hub_if];exact (C.cv ht f hp).1
 ·show (if k+1=0 then X.LGv0 (s.reg t) (s.buf t++[⟨X.hub,1,v⟩]) s.val L t 2 else X.LGv (s.reg t) (s.buf t++[⟨X.hub,1,v⟩]) (old t) (k+1) 2);rw[if_neg hk];exact ⟨hf,ho,fun e=>by omega,fun e=>by omega,fun _=>.inl (by rw[hb (by omega),hv,hr rfl];rfl),by omega⟩
theorem g_wn3(C:Core X s p old L B)(ht:t<X.n){g:Bool}(hp:p t=.wn g 3){v:Int}(hv:v=s.reg t 0):Core X (s.setB t (s.buf t++[⟨X.hub,0,v⟩])) (upd p t (.wn g 4)) old L B:=by
 have T:=C.th t ht;have Tb:=T.b;rw[hp]at Tb;obtain ⟨f3,hb,hr,hT⟩:=Tb;have hH:=C.h0 f3;have hcv:=C.cv ht f3 hp
 refine C.push ht hp _ _ (by simp) (by simp[Has]) (by simp[joining]) (fun h=>absurd trivial h) (fun _=>?_) (fun _ e=>absurd e.symm (X.ne t)) (fun f g e=>absurd e (by simp[inS])) (fun f e=>absurd e (by simp[inL])) (fun f _=>trivial) (fun f=>absurd f f3) (fun f=>absurd f f3) trivial (fun f=>trivial) (fun PR hP hno=>⟨f3,v,by rw[hv,hr];omega,.inl (by rw[hb];rfl),fun r hr' ho=>?_⟩)
 ·rw[hub_if];exact hcv.1
 ·rw[hv,hr];exact (hT r hr' ho).mono fun φ=>hP r φ (hno r hr' ho)
theorem g_own3(C:Core X s p old L B)(ht:t<X.n){P q:Pos}(hp:p t=P)(hPq:(P=.gn 1∧q=.gn 2)∨(P=.ca 1∧q=.ca 2)){v:Int}:Core X (s.setB t (s.buf t++[⟨X.own t,0,v⟩])) (upd p t q) old L B:=by
 have T:=C.th t ht;have Tb:=T.b;rw[hp]at Tb
 rcases hPq with ⟨rfl,rfl⟩|⟨rfl,rfl⟩
 ·have f3:X.f=3:=Tb
  exact C.push ht hp _ _ (by simp) (by simp[Has]) (by simp[joining]) (fun _=>⟨rfl,rfl⟩) (fun f=>absurd f3 f) (fun f=>absurd f3 f) (fun f=>absurd f3 f) (fun f e=>absurd e (by simp[inL])) (fun _ h=>absurd trivial h) (fun f e=>absurd e (by simp[ok3])) (fun _ e=>absurd e (X.ne t)) (by show 2<3;omega) (fun f=>trivial) (fun _ _ _=>f3)
 ·have f3:X.f=3:=Tb
  exact C.push ht hp _ _ (by simp) (by simp[Has]) (by simp[joining]) (fun _=>⟨rfl,rfl⟩) (fun f=>absurd f3 f) (fun f=>absurd f3 f) (fun f=>absurd f3 f) (fun f e=>absurd e (by simp[inL])) (fun _ h=>absurd trivial h) (fun f e=>absurd e (by simp[ok3])) (fun _ e=>absurd e (X.ne t)) (by show 2<3;omega) (fun f=>trivial) (fun _ _ _=>f3)
theorem g_rs1(C:Core X s p old L B)(ht:t<X.n)(hp:p t=.rs 1){v:Int}(hv:v=s.reg t 0):Core X (s.setB t (s.buf t++[⟨X.own t,0,v⟩])) (upd p t (.rs 2)) old L B:=by
 have T:=C.th t ht;have Tb:=T.b;have Tc:=T.c;have hnb:=T.nb;rw[hp]at Tb Tc hnb;have f3:X.f=3:=Tb;have hc:=Tc f3
 refine C.push ht hp _ _ (by simp) (by simp[Has]) (by simp[joining]) (fun _=>⟨rfl,rfl⟩) (fun f=>absurd f3 f) (fun f=>absurd f3 f) (fun f=>absurd f3 f) (fun f e=>absurd e (by simp[inL])) (fun _ h=>absurd trivial h) (fun f e=>trivial) (fun _ e=>absurd e (X.ne t)) (by show 2<3;omega) (fun f=>?_) (fun _ _ _=>f3)
 intro x hx ha
 rcases List.mem_append.1 hx with hx|hx
 ·exact absurd (ha ▸ gr_own ht) (hnb f3 (by simp[wait3]) (by simp[Has]) x hx)
 ·rw[List.mem_singleton.1 hx,hv];exact hc
theorem g_cr1(C:Core X s p old L B)(ht:t<X.n)(hp:p t=.cr 1){v:Int}(hv:v=s.reg t 0):Core X (s.setB t (s.buf t++[⟨X.own t,0,v⟩])) (upd p t (.cr 2)) old L B:=by
 have T:=C.th t ht;have Tb:=T.b;have Tc:=T.c;rw[hp]at Tb Tc;have f3:X.f=3:=Tb.1;obtain ⟨h1,h2,h3⟩:=Tc f3
 refine C.push ht hp _ _ (by simp) (by simp[Has]) (by simp[joining]) (fun _=>⟨rfl,rfl⟩) (fun f=>absurd f3 f) (fun f=>absurd f3 f) (fun f=>absurd f3 f) (fun f e=>absurd e (by simp[inL])) (fun _ h=>absurd trivial h) (fun f e=>absurd e (by simp[ok3])) (fun _ e=>absurd e (X.ne t)) (by show 2<3;omega) (fun f=>.inl ⟨v,by rw[h1];rfl,by rw[hv];exact h2,by rw[hv];exact h3⟩) (fun _ _ _=>Tb)
theorem g_cs3(C:Core X s p old L B)(ht:t<X.n)(hp:p t=.cs 3){v:Int}(hv:v=s.reg t 0):Core X (s.setB t (s.buf t++[⟨X.hub,0,v⟩])) (upd p t (.cs 4)) old L (B+2):=by
 have T:=C.th t ht;have Tb:=T.b;rw[hp]at Tb;obtain ⟨f3,hb,hr⟩:=Tb;have hH:=C.h3 f3
 refine (C.up (show B≤B+2 by omega)).push ht hp _ _ (by simp) (by simp[Has]) (by simp[joining]) (fun h=>absurd trivial h) (fun f=>absurd f3 f) (fun f=>absurd f3 f) (fun f=>absurd f3 f) (fun f e=>absurd e (by simp[inL])) (fun f _=>trivial) (fun f e=>absurd e (by simp[ok3])) (fun _ _ _=>by show v≤B+2;omega) trivial (fun f=>trivial) (fun PR hP hno=>⟨f3,v,.inl ⟨by rw[hb];rfl,by rw[hv,hr]⟩,fun r hr' ho=>hP r _ (hno r hr' ho) ?_⟩)
 obtain ⟨c,d,h1,h2⟩:=C.old t r ht hr' ho;have Tr:=C.th r hr';have hk:=Tr.ok f3 (by rw[h1];trivial);have hn:=Tr.nb f3 (by rw[h1];simp[wait3]) (by rw[h1];simp[Has]);exact ⟨⟨hk.1,by omega⟩,fun e he ha _=>absurd (ha ▸ gr_own hr') (hn e he)⟩
end Qg
end
section
namespace Qg
open Qs
variable {X:Cx}{s s':A}{p:Nat→Pos}{old old':Nat→Nat→Prop}{L L':List Nat}{B:Int}{t u:Nat}
theorem Core.exit(C:Core X s p old L B)(ht:t<X.n){P:Pos}(hp:p t=P)(q:Pos){d:Nat}(hq:startD X.f q=some d)(hd:d<100)
  (hcl:∀c d,P≠.cl c d) (hnh:¬Has (s.reg t) (s.buf t) P) (hcnt:X.f≠3→cnt P=d)
  (hsec:X.f≠3→X.f≠2→0<d→X.Prot s t (phi 1)∨X.Prot s t (phi 257)) (hl:X.f=4→0<d→t∈L)
  (hn:X.f=3→¬wait3 P∨s.buf t=[]) (hok:X.f=3→ok3 q→1≤s.val (X.own t) 0∧s.val (X.own t) 0≤s.val X.hub 0) (hj:¬joining P):Core X s (upd p t q) old L B:=by
 subst hp;have Bq:=beg_of (X:=X) hq hd (s.reg t) (s.buf t) s.val (X.Prot s) (old t) L t (s.vw t (X.own t) 0) (s.val X.hub 0)
 exact C.go ht q (fun _ _=>rfl) rfl rfl rfl rfl hcl ⟨fun h=>absurd h Bq.h,fun h=>absurd h hnh⟩ (fun f=>by rw[Bq.n f,hcnt f]) (fun f g e=>hsec f g (Bq.s f e)) (fun f e=>hl f (Bq.l f e)) (fun f _=>hn f) hok (fun f _=>C.j f t ht hj) Bq.a (fun _=>Bq.c) Bq.b
theorem g_ent12(C:Core X s p old L B)(ht:t<X.n){d:Nat}(hp:p t=.ent d 12){q:Pos}(hq:startD X.f q=some (d+1))(hd:d+1<100):Core X s (upd p t q) old L B:=by
 have T:=C.th t ht;have Tb:=T.b;rw[hp]at Tb;exact C.exit ht hp q hq hd (by simp) (by simp[Has]) (fun _=>rfl) (fun f g _=>T.sec f g (by rw[hp];exact .inr rfl)) (fun f _=>T.il f (by rw[hp];trivial)) (fun f=>absurd f Tb) (fun f=>absurd f Tb) (by simp[joining])
theorem g_gv12(C:Core X s p old L B)(ht:t<X.n)(hp:p t=.gv 1 2)(hb:s.buf t=[]){q:Pos}(hq:startD X.f q=some 0):Core X s (upd p t q) old L B:=by
 have T:=C.th t ht;have Tb:=T.b;rw[hp]at Tb;have Tb':X.LGv (s.reg t) (s.buf t) (old t) 1 2:=Tb
 have f3:X.f≠3:=by rcases Tb'.1 with h|h <;> omega
 exact C.exit ht hp q hq (by omega) (by simp) (by simp[Has,hb]) (fun _=>rfl) (fun f g e=>by omega) (fun f e=>by omega) (fun f=>absurd f f3) (fun f=>absurd f f3) (by simp[joining])
theorem g_rs2(C:Core X s p old L B)(ht:t<X.n)(hp:p t=.rs 2)(hb:s.buf t=[]){q:Pos}{d:Nat}(hq:startD X.f q=some d)(hd:d<100):Core X s (upd p t q) old L B:=by
 have T:=C.th t ht;have Tb:=T.b;rw[hp]at Tb;have f3:X.f=3:=Tb;exact C.exit ht hp q hq hd (by simp) (by simp[Has]) (fun f=>absurd f3 f) (fun f=>absurd f3 f) (fun f=>by omega) (fun _=>.inr hb) (fun f _=>T.ok f (by rw[hp];trivial)) (by simp[joining])
theorem g_gn2(C:Core X s p old L B)(ht:t<X.n)(hp:p t=.gn 2)(hb:s.buf t=[]):Core X s (upd p t .fin) old L B:=by
 have T:=C.th t ht;have Tb:=T.b;rw[hp]at Tb;have f3:X.f=3:=Tb;exact C.exit ht hp .fin rfl (by omega) (by simp) (by simp[Has]) (fun f=>absurd f3 f) (fun f=>absurd f3 f) (fun f=>by omega) (fun _=>.inr hb) (fun f h=>h.elim) (by simp[joining])
theorem g_cr2(C:Core X s p old L B)(ht:t<X.n)(hp:p t=.cr 2)(hb:s.buf t=[]){q:Pos}{d:Nat}(hq:startD X.f q=some d)(hd:d<100):Core X s (upd p t q) old L B:=by
 have T:=C.th t ht;have Tb:=T.b;have Tc:=T.c;rw[hp]at Tb Tc;have f3:X.f=3:=Tb.1;refine C.exit ht hp q hq hd (by simp) (by simp[Has]) (fun f=>absurd f3 f) (fun f=>absurd f3 f) (fun f=>by omega) (fun _=>.inr hb) (fun f _=>?_) (by simp[joining])
 rcases Tc f with ⟨v,h1,_⟩|⟨_,h2,h3⟩
 ·rw[hb]at h1;cases h1
 ·rw[vw_nil hb]at h2 h3;exact ⟨h2,h3⟩
theorem g_ent11(C:Core X s p old L B)(ht:t<X.n){d:Nat}(hp:p t=.ent d 11)(hb:s.buf t=[]):Core X s (upd p t (.ent d 12)) old L B:=by
 have T:=C.th t ht;have Ta:=T.a;have Tb:=T.b;rw[hp]at Ta Tb;have hd:d=0:=Ta;subst hd;have f3:X.f≠3:=Tb;obtain ⟨h1,h2⟩:=C.cv ht f3 hp;have h1:s.vw t (X.own t) 0 % 256=1:=h1
 exact C.go ht _ (fun _ _=>rfl) rfl rfl rfl rfl (by rw[hp];simp) (by rw[hp];simp[Has]) (fun _=>by rw[hp];rfl) (fun _ _ _=>Prot_phase hb h2 (by rw[h1];omega)) (fun f _=>T.il f (by rw[hp];trivial)) (fun f=>absurd f f3) (fun f=>absurd f f3) (fun f _=>C.j f t ht (by rw[hp];simp[joining])) trivial (fun _=>trivial) Tb
theorem g_gv02(C:Core X s p old L B)(ht:t<X.n)(hp:p t=.gv 0 2)(hb:s.buf t=[]):Core X s (upd p t (.jk 0)) old L B:=by
 have T:=C.th t ht;have Tb:=T.b;rw[hp]at Tb;have Tb':X.LGv0 (s.reg t) (s.buf t) s.val L t 2:=Tb;obtain ⟨f4,i,F,hi,hbf,j1,j2,j3,j4,j5⟩:=Tb'
 have hi4:i=4:=by
  rw[hb]at hbf;have:=congrArg List.length hbf;simp[Cx.sq]at this;omega
 have hL:=j3 (by omega);have h2:=j5 (by omega)
 exact C.go ht _ (fun _ _=>rfl) rfl rfl rfl rfl (by rw[hp];simp) (by rw[hp];simp[Has,hb]) (fun _=>by rw[hp];rfl) (fun _ _ e=>absurd e (by simp[inS])) (fun f _=>hL) (fun f=>by omega) (fun f=>by omega) (fun f _=>⟨fun _=>h2,fun _=>hL⟩) (by show 0<100;omega) (fun _=>trivial) f4
theorem g_gv22(C:Core X s p old L B)(ht:t<X.n)(hp:p t=.gv 2 2)(hb:s.buf t=[]):Core X s (upd p t (.cr 0)) old L B:=by
 have T:=C.th t ht;have Tb:=T.b;rw[hp]at Tb;have Tb':X.LGv (s.reg t) (s.buf t) (old t) 2 2:=Tb
 have f3:X.f=3:=by rcases Tb'.1 with h|h <;> omega
 exact C.go ht _ (fun _ _=>rfl) rfl rfl rfl rfl (by rw[hp];simp) (by rw[hp];simp[Has,hb]) (fun _=>by rw[hp];rfl) (fun _ _ e=>absurd e (by simp[inS])) (fun f _=>by omega) (fun f _=>.inr hb) (fun f e=>e.elim) (fun f _=>by omega) (by show 0<3;omega) (fun _=>hb) ⟨f3,Tb'.2.1⟩
theorem g_ca2(C:Core X s p old L B)(ht:t<X.n)(hp:p t=.ca 2)(hb:s.buf t=[]):Core X s (upd p t (.tk 2 0)) old L B:=by
 have T:=C.th t ht;have Tb:=T.b;rw[hp]at Tb;have f3:X.f=3:=Tb
 exact C.go ht _ (fun _ _=>rfl) rfl rfl rfl rfl (by rw[hp];simp) (by rw[hp];simp[Has]) (fun _=>by rw[hp];rfl) (fun _ _ e=>absurd e (by simp[inS])) (fun f _=>by omega) (fun f _=>.inr hb) (fun f e=>e.elim) (fun f _=>by omega) (fun _=>hb) (fun _=>trivial) ⟨fun e=>by omega,fun e=>by omega,fun _=>f3,by omega⟩
theorem g_wb(C:Core X s p old L B)(ht:t<X.n)(hp:p t=.wb)(hb:s.buf t=[])(hb2:X.f=2→∀u,u<X.n→s.buf u=[]):Core X s (upd p t (.tk 1 0)) old L B:=by
 have T:=C.th t ht;have Tb:=T.b;rw[hp]at Tb;have f3:X.f≠3:=Tb
 refine C.go ht _ (fun _ _=>rfl) rfl rfl rfl rfl (by rw[hp];simp) (by rw[hp];simp[Has]) (fun _=>by rw[hp];rfl) (fun _ _ e=>absurd e (by simp[inS])) (fun f e=>e.elim) (fun f=>absurd f f3) (fun f=>absurd f f3) (fun f _=>C.j f t ht (by rw[hp];simp[joining])) (fun _=>hb) (fun _=>trivial) ⟨fun e=>by omega,fun _=>⟨f3,fun r hr ho=>?_⟩,fun e=>by omega,by omega⟩
 obtain ⟨c,d,h1,h2⟩:=C.old t r ht hr ho;have Tr:=C.th r hr;show X.Prot s r (phi 1)∨X.Prot s r (phi 257)
 by_cases f2:X.f=2
 ·obtain ⟨h3,h4⟩:=C.cv hr f3 h1;exact Prot_phase (hb2 f2 r hr) h4 (by rw[h3];simp only[cnt];omega)
 ·exact Tr.sec f3 f2 (by rw[h1];exact h2)
theorem g_cas(C:Core X s p old L B)(ht:t<X.n){k:Nat}(hp:p t=.tk k 3)(hb:s.buf t=[]) :
  Core X ((if s.val X.hub 1=s.reg t 0 then s.put ⟨X.hub,1,s.reg t 1⟩else s).setR t 0 (s.val X.hub 1)) (upd p t (.tk k 4)) old L B:=by
 have T:=C.th t ht;have Ta:=T.a;have Tb:=T.b;rw[hp]at Ta Tb;obtain ⟨_,h0,h1⟩:=Ta;rw[h0,h1]
 have hS:Stat (.tk k 3) (.tk k 4):=by constructor <;> simp[cnt,inS,inL,wait3,ok3,joining]
 by_cases hz:s.val X.hub 1=0
 ·rw[if_pos hz,hz]
  have hno:∀u,u<X.n→¬Has (s.reg u) (s.buf u) (p u):=by
   rcases C.lock with ⟨_,h⟩|⟨h,_,_,h3,_⟩
   ·exact h
   ·omega
  obtain ⟨s1,hs1⟩:∃s1,s1=(s.put ⟨X.hub,1,1⟩).setR t 0 0:=⟨_,rfl⟩;rw[←hs1]
  have v0:∀u w,s1.val (X.own u) w=s.val (X.own u) w:=fun u w=>by rw[hs1];exact if_neg fun e=>X.ne u e.1
  have v1:∀w,w≠1→s1.val X.hub w=s.val X.hub w:=fun w hw=>by rw[hs1];exact if_neg fun e=>hw e.2
  have v2:s1.val X.hub 1=1:=by rw[hs1];exact if_pos ⟨rfl,rfl⟩
  have e1:∀u,u≠t→s1.reg u=s.reg u:=fun u hu=>by rw[hs1];exact setR_ne _ _ _ hu
  have e2:s1.buf=s.buf:=by rw[hs1];rfl
  have e3:s1.reg t=rset (s.reg t) 0 0:=by rw[hs1];exact setR_reg _ _ _ _
  have hP:X.Prot s1=X.Prot s:=by funext r φ;unfold Cx.Prot;rw[e2,v0]
  have hvw:s1.vw t (X.own t) 0=s.vw t (X.own t) 0:=by unfold A.vw;rw[e2,v0]
  clear hs1
  have hcl:∀c d,p t≠.cl c d:=by rw[hp];simp
  refine ⟨fun u hu=>?_,.inr ⟨t,ht,?_,v2,fun u hu hne=>?_⟩,by rw[v1 0 (by omega)];exact C.h0,by rw[v1 0 (by omega)];exact C.h3,by rw[e2];exact C.hb3,?_,C.all,fun f u hu hj=>?_,fun a r ha hr ho=>?_⟩
  ·by_cases e:u=t
   ·subst e;rw[upd_same]
    refine ⟨?_,?_,?_,fun f=>?_,fun f=>by rw[hP];exact T.rng f,fun f g e=>absurd (by rw[hp];exact hS.s e) (fun h:inS (p u)=>by rw[hp]at h;exact h),fun f e=>absurd e (by simp[inL]),fun f _ h=>absurd (show Has _ _ (.tk k 4)from by rw[e3];exact rset_same _ _ _) h,fun f e=>absurd e (by simp[ok3]),?_,fun f=>trivial,?_⟩
    ·rw[e3];exact T.r6
    ·rw[e3];exact T.r7
    ·exact fun h=>absurd (show Has _ _ (.tk k 4)from by rw[e3];exact rset_same _ _ _) h
    ·rw[hvw,T.vw f,hp];rfl
    ·rw[e2];exact hb
    ·rw[hP,e2];exact ⟨Tb.1,Tb.2.1,Tb.2.2⟩
   ·rw[upd_ne _ _ e];exact (C.th u hu).mono (e1 u e) (by rw[e2]) (v0 u) (fun _=>by rw[v1 0 (by omega)];exact Int.le_refl _) (fun _=>⟨v1 0 (by omega),v1 2 (by omega),fun r _=>v0 r 1⟩) (fun r hr h=>h) (fun r φ hr ho h=>by rw[hP];exact h) Iff.rfl
  ·rw[upd_same,e3,e2];exact rset_same _ _ _
  ·rw[upd_ne _ _ hne,e1 u hne,e2];exact hno u hu
  ·rw[v1 2 (by omega)];exact Ch.mono (fun r _=>v0 r 1) C.ch
  ·rw[v0]
   by_cases e:u=t
   ·subst e;rw[upd_same]at hj;exact C.j f u hu (by rw[hp];simp[joining])
   ·rw[upd_ne _ _ e]at hj;exact C.j f u hu hj
  ·obtain ⟨c,d,g1,g2⟩:=C.old a r ha hr ho;refine ⟨c,d,?_,g2⟩;rw[upd_ne p _ (fun e:r=t=>hcl c d (by rw[←e];exact g1))];exact g1
 ·rw[if_neg hz];refine C.goR ht hp _ 0 _ (by omega) hS ?_ hb (fun _=>trivial) ⟨Tb.1,Tb.2.1,Tb.2.2⟩;show rset (s.reg t) 0 (s.val X.hub 1) 0=0↔False;rw[rset_same];exact ⟨hz,False.elim⟩
end Qg
end
section
namespace Qg
open Qs
variable {X:Cx}{s s':A}{p:Nat→Pos}{old old':Nat→Nat→Prop}{L L':List Nat}{B:Int}{t u:Nat}{e:En}{r:List En}
theorem dr_eq(hb:s.buf t=e :: r):s.dr t=(s.put e).setB t r:=by unfold A.dr;rw[hb]
theorem dr_val(hb:s.buf t=e :: r)(x:Int)(w:Nat):(s.dr t).val x w=if x=e.a∧w=e.w then e.v else s.val x w:=by rw[dr_eq hb];rfl
theorem dr_t(hb:s.buf t=e :: r):(s.dr t).buf t=r:=by rw[dr_eq hb];exact if_pos rfl
theorem dr_u(hu:u≠t):(s.dr t).buf u=s.buf u:=by rw[A.dr_buf,if_neg hu]
theorem dr_vw(hb:s.buf t=e :: r)(x:Int)(w:Nat):(s.dr t).vw t x w=s.vw t x w:=by
 unfold A.vw;rw[dr_t hb,dr_val hb,hb,lk1_cons]
 congr 1
 by_cases h:x=e.a∧w=e.w
 ·rw[if_pos h,if_pos ⟨h.1.symm,h.2.symm⟩]
 ·rw[if_neg h,if_neg (fun g=>h ⟨g.1.symm,g.2.symm⟩)]
theorem Prot.drain(hb:s.buf t=e :: r){φ : Int→Prop}(h:X.Prot s t φ):X.Prot (s.dr t) t φ:=by
 refine ⟨?_,fun x hx=>?_⟩
 ·rw[dr_val hb]
  split
  ·rename_i g;exact h.2 e (by rw[hb];simp) g.1.symm g.2.symm
  ·exact h.1
 ·rw[dr_t hb]at hx;exact h.2 x (by rw[hb];simp[hx])
theorem Prot.drain_ne(hb:s.buf t=e :: r)(hu:u≠t)(he:¬(X.own u=e.a∧0=e.w)){φ : Int→Prop}(h:X.Prot s u φ):X.Prot (s.dr t) u φ:=
 Prot.same (dr_u hu) (by rw[dr_val hb,if_neg he]) h
theorem LocA.drain{rg:Nat→Int}{v:Int}(P:Pos)(h:LocA rg v (e :: r) P):LocA rg v r P:=by
 cases P with
 |tk k j=>
  match j,h with
  |0,h=>exact fun hk=>absurd (h hk) (by simp)
  |1,h=>exact fun hk=>absurd (h hk) (by simp)
  |2,h=>exact ⟨fun hk=>absurd (h.1 hk) (by simp),h.2⟩
  |3,h=>exact ⟨fun hk=>absurd (h.1 hk) (by simp),h.2⟩
  |4,h=>exact absurd h (by simp[LocA])
  |5,h=>exact absurd h (by simp[LocA])
  |6,h=>exact absurd h (by simp[LocA])
  |j+7,h=>exact h.elim
 |ent d j=>
  match j,h with
  |0,h=>exact h
  |1,h=>exact h
  |2,h=>exact h
  |3,h=>exact h
  |4,h=>exact h
  |5,h=>exact h
  |6,h=>exact h
  |7,h=>exact h
  |8,h=>exact h
  |9,h=>exact h
  |10,h=>exact h
  |11,h=>exact h
  |12,h=>exact h
  |j+13,h=>exact h.elim
 |lea d j=>
  match j,h with
  |0,h=>exact h
  |1,h=>exact h
  |2,h=>exact h
  |3,h=>exact h
  |4,h=>exact h
  |j+5,h=>exact h.elim
 |_=>exact h
theorem has_drain{rg:Nat→Int}(P:Pos)(h:Has rg r P):Has rg (e :: r) P:=by
 cases P with
 |gv k j=>
  match j,h with
  |0,h=>trivial
  |1,h=>trivial
  |2,h=>exact (by simp[Has])
  |j+3,h=>trivial
 |tk k j=>
  match j,h with
  |0,h=>exact h
  |1,h=>exact h
  |2,h=>exact h
  |3,h=>exact h
  |4,h=>exact h
  |5,h=>exact h
  |6,h=>exact h
  |j+7,h=>exact h.elim
 |_=>exact h
theorem Core.drN(C:Core X s p old L B)(ht:t<X.n)(hb:s.buf t=e :: r)(hH:¬Has (s.reg t) (s.buf t) (p t)):Core X (s.dr t) p old L B:=by
 have T:=C.th t ht;have he:X.gr e.a→e.a=X.own t∧e.w=0:=T.buf hH e (by rw[hb];simp);have hreg:(s.dr t).reg=s.reg:=A.dr_reg s t
 have hhub:∀w,(s.dr t).val X.hub w=s.val X.hub w:=fun w=>by
  rw[dr_val hb,if_neg];rintro ⟨h1,_⟩;exact X.ne t ((he (h1 ▸ gr_hub)).1.symm.trans h1.symm)
 have hown:∀u,u<X.n→∀w,u≠t∨w≠0→(s.dr t).val (X.own u) w=s.val (X.own u) w:=fun u hu w hw=>by
  rw[dr_val hb,if_neg];rintro ⟨h1,h2⟩;obtain ⟨h3,h4⟩:=he (h1 ▸ gr_own hu)
  rcases hw with hw|hw
  ·exact hw (X.inj _ _ (h1.trans h3))
  ·exact hw (h2.trans h4)
 have hprot:∀u φ,u<X.n→X.Prot s u φ→X.Prot (s.dr t) u φ:=fun u φ hu h=>by
  by_cases e1:u=t
  ·subst e1;exact Prot.drain hb h
  ·exact Prot.same (dr_u e1) (hown u hu 0 (.inl e1)) h
 have hH':∀u,u<X.n→(Has ((s.dr t).reg u) ((s.dr t).buf u) (p u)↔Has (s.reg u) (s.buf u) (p u)):=fun u hu=>by
  rw[hreg]
  by_cases e1:u=t
  ·subst e1;rw[dr_t hb];exact ⟨fun h=>absurd (by rw[hb];exact has_drain _ h) hH,fun h=>absurd h hH⟩
  ·rw[dr_u e1]
 refine ⟨fun u hu=>?_,?_,by rw[hhub];exact C.h0,by rw[hhub];exact C.h3,fun f u hu x hx=>C.hb3 f u hu x (A.dr_mem hx),?_,C.all,fun f u hu hj=>?_,C.old⟩
 ·by_cases e1:u=t
  ·subst e1;have hH2:¬Has (s.reg u) r (p u):=fun h=>hH (by rw[hb];exact has_drain _ h)
   refine ⟨by rw[hreg];exact T.r6,by rw[hreg];exact T.r7,fun _ x hx=>T.buf hH x (A.dr_mem hx),fun f=>by rw[dr_vw hb];exact T.vw f,fun f=>Prot.drain hb (T.rng f),fun f g h=>?_,T.il,fun f h _ x hx=>T.nb f h hH x (A.dr_mem hx),fun f h=>?_,?_,fun f=>?_,?_⟩
   ·rcases T.sec f g h with h|h
    ·exact .inl (Prot.drain hb h)
    ·exact .inr (Prot.drain hb h)
   ·rw[hhub,dr_val hb]
    split
    ·rename_i g
     have hg:=he (g.1 ▸ gr_own hu)
     by_cases hw:wait3 (p u)
     ·have hc:=T.c f
      cases hp:p u with
      |rs j=>
       rw[hp]at hc hw
       match j,hc,hw with
       |2,hc,_=>exact hc e (by rw[hb];simp) hg.1
      |gn j=>
       rw[hp]at hw h
       match j,hw,h with
       |2,_,h=>exact h.elim
      |ca j=>
       rw[hp]at hw h
       match j,hw,h with
       |2,_,h=>exact h.elim
      |cr j=>rw[hp]at h;exact h.elim
      |_=>rw[hp]at hw;exact hw.elim
     ·exact absurd (g.1 ▸ gr_own hu) (T.nb f hw hH e (by rw[hb];simp))
    ·exact T.ok f h
   ·rw[hreg,dr_vw hb,dr_t hb];have:=T.a;rw[hb]at this;exact LocA.drain _ this
   ·rw[hreg,dr_vw hb,dr_t hb,hhub];have hc:=T.c f;rw[hb]at hc
    cases hp:p u with
    |rs j=>
     rw[hp]at hc
     match j,hc with
     |0,hc=>trivial
     |1,hc=>exact hc
     |2,hc=>exact fun x hx=>hc x (by simp[hx])
     |j+3,hc=>trivial
    |cr j=>
     rw[hp]at hc
     match j,hc with
     |0,hc=>exact absurd hc (by simp[LocC])
     |1,hc=>exact absurd hc.1 (by simp)
     |2,hc=>
      rcases hc with ⟨v',h1,h2,h3⟩|⟨h1,_⟩
      ·simp only[List.cons.injEq]at h1;obtain ⟨h4,h5⟩:=h1;refine .inr ⟨h5,?_⟩
       have:s.vw u (X.own u) 0=v':=by
        unfold A.vw;rw[hb,h4,h5,lk1_cons,if_pos ⟨rfl,rfl⟩];rfl
       rw[this];exact ⟨h2,h3⟩
      ·cases h1
     |j+3,hc=>trivial
    |_=>trivial
   ·rw[hreg,dr_t hb];have hbb:=T.b
    have hm:X.LocB (s.reg u) (s.buf u) (s.dr u).val (X.Prot (s.dr u)) (old u) L u (p u)∨p u=.gv 0 2:=by
     by_cases hg:p u=.gv 0 2
     ·exact .inr hg
     ·left
      exact LocB.mono (L:=L) (vl:=s.val) (vl':=fun x w=>if x=X.own u∧w=0 then s.val x w else (s.dr u).val x w) hbb (fun _ _ h=>h) (fun r φ hr _ h=>hprot r φ hr h) Iff.rfl (fun w=>by
       by_cases hw:w=0
       ·simp only[hw,and_self,if_true]
       ·simp only[hw,and_false,if_false];exact hown u hu w (.inr hw)) (fun h=>absurd h hH) |> fun h=>by
        cases hp:p u with
        |jh d j=>rw[hp]at h;exact h
        |tk k j=>rw[hp]at h;exact h
        |gv k j=>
         exfalso;rw[hp]at hH hg
         match j,hH with
         |0,hH=>exact hH trivial
         |1,hH=>exact hH trivial
         |2,hH=>exact hH (by rw[hb];simp[Has])
         |j+3,hH=>exact hH trivial
        |jc j=>exfalso;rw[hp]at hH;exact hH trivial
        |wn g j=>exfalso;rw[hp]at hH;exact hH trivial
        |wx g j=>exfalso;rw[hp]at hH;exact hH trivial
        |we=>exfalso;rw[hp]at hH;exact hH trivial
        |cs j=>exfalso;rw[hp]at hH;exact hH trivial
        |cx j=>exfalso;rw[hp]at hH;exact hH trivial
        |_=>rw[hp]at h;exact h
    rcases hm with h|h
    ·cases hp:p u with
     |jh d j=>rw[hp]at h;exact h
     |tk k j=>rw[hp]at h;exact h
     |gv k j=>
      exfalso;rw[hp]at hH
      match j,hH with
      |0,hH=>exact hH trivial
      |1,hH=>exact hH trivial
      |2,hH=>exact hH (by rw[hb];simp[Has])
      |j+3,hH=>exact hH trivial
     |jc j=>exfalso;rw[hp]at hH;exact hH trivial
     |wn g j=>exfalso;rw[hp]at hH;exact hH trivial
     |wx g j=>exfalso;rw[hp]at hH;exact hH trivial
     |we=>exfalso;rw[hp]at hH;exact hH trivial
     |cs j=>exfalso;rw[hp]at hH;exact hH trivial
     |cx j=>exfalso;rw[hp]at hH;exact hH trivial
     |_=>rw[hp]at h;exact h
    ·exfalso;rw[h]at hH;exact hH (by rw[hb];simp[Has])
  ·exact (C.th u hu).mono (by rw[hreg]) (dr_u e1) (fun w=>hown u hu w (.inl e1)) (fun _=>by rw[hhub];exact Int.le_refl _) (fun _=>⟨hhub 0,hhub 2,fun q hq=>hown q hq 1 (.inr (by omega))⟩) (fun _ _ h=>h) (fun q φ hq _ h=>hprot q φ hq h) Iff.rfl
 ·rw[hhub]
  rcases C.lock with ⟨h1,h2⟩|⟨h,h1,h2,h3,h4⟩
  ·exact .inl ⟨h1,fun u hu g=>h2 u hu ((hH' u hu).1 g)⟩
  ·exact .inr ⟨h,h1,(hH' h h1).2 h2,h3,fun u hu hne g=>h4 u hu hne ((hH' u hu).1 g)⟩
 ·rw[hhub];exact Ch.mono (fun q hq=>hown q hq 1 (.inr (by omega))) C.ch
 ·rw[hown u hu 2 (.inr (by omega))];exact C.j f u hu hj
end Qg
end
section
namespace Qg
open Qs
variable {X:Cx}{s s':A}{p:Nat→Pos}{old old':Nat→Nat→Prop}{L L':List Nat}{B:Int}{t u:Nat}{e:En}{r:List En}
theorem Core.drH(C:Core X s p old L B)(ht:t<X.n)(hb:s.buf t=e :: r){P:Pos}(hp:p t=P)(hH:Has (s.reg t) (s.buf t) P)(he:e.a=X.hub∨(e.a=X.own t∧e.w≠0))(L':List Nat)
  (hL:∀u,u≠t→(u∈L'↔u∈L)) (hLt:t∈L→t∈L')
  (hlock:(Has (s.reg t) r P∧¬(e.a=X.hub∧e.w=1))∨(¬Has (s.reg t) r P∧e.a=X.hub∧e.w=1∧e.v=0∧r=[]))
  (h0:e.a=X.hub→e.w=0→(X.f≠3→e.v=1∨e.v=257)∧(X.f=3→s.val X.hub 0≤e.v))
  (ch:X.Ch (s.dr t).val ((s.dr t).val X.hub 2) L') (hJ:X.f=4→¬joining P→(t∈L'↔(s.dr t).val (X.own t) 2≠0)) (hok:¬ok3 P)
  (hc:∀rg v h0 bf,LocC rg v h0 bf (X.own t) P) (hbb:X.LocB (s.reg t) r (s.dr t).val (X.Prot (s.dr t)) (old t) L' t P):Core X (s.dr t) p old L' B:=by
 have T:=C.th t ht;subst hp;have hreg:(s.dr t).reg=s.reg:=A.dr_reg s t
 have hno:∀u,u<X.n→u≠t→¬Has (s.reg u) (s.buf u) (p u):=by
  rcases C.lock with ⟨_,h⟩|⟨h,h1,h2,h3,h4⟩
  ·exact absurd hH (h t ht)
  ·by_cases e1:h=t
   ·subst e1;exact h4
   ·exact absurd hH (h4 t ht (fun a=>e1 a.symm))
 have hown:∀u,u≠t→∀w,(s.dr t).val (X.own u) w=s.val (X.own u) w:=fun u hu w=>by
  rw[dr_val hb,if_neg];rintro ⟨h1,_⟩
  rcases he with h|⟨h,_⟩
  ·exact X.ne u (h1.trans h)
  ·exact hu (X.inj _ _ (h1.trans h))
 have hown0:(s.dr t).val (X.own t) 0=s.val (X.own t) 0:=by
  rw[dr_val hb,if_neg];rintro ⟨h1,h2⟩
  rcases he with h|⟨_,h⟩
  ·exact X.ne t (h1.trans h)
  ·exact h h2.symm
 have hprot:∀u φ,X.Prot s u φ→X.Prot (s.dr t) u φ:=fun u φ h=>by
  by_cases e1:u=t
  ·subst e1;exact Prot.drain hb h
  ·exact Prot.same (dr_u e1) (hown u e1 0) h
 have hm3:X.f=3→s.val X.hub 0≤(s.dr t).val X.hub 0:=fun f=>by
  rw[dr_val hb]
  split
  ·rename_i g;exact (h0 g.1.symm g.2.symm).2 f
  ·exact Int.le_refl _
 refine ⟨fun u hu=>?_,?_,fun f=>?_,fun f=>?_,fun f u hu x hx=>C.hb3 f u hu x (A.dr_mem hx),ch,fun f u hu=>?_,fun f u hu hj=>?_,C.old⟩
 ·by_cases e1:u=t
  ·subst e1;refine ⟨by rw[hreg];exact T.r6,by rw[hreg];exact T.r7,fun g x hx=>?_,fun f=>by rw[dr_vw hb];exact T.vw f,fun f=>Prot.drain hb (T.rng f),fun f g h=>?_,fun f h=>hLt (T.il f h),fun f h g x hx=>?_,fun f h=>absurd h hok,?_,fun f=>hc _ _ _ _,?_⟩
   ·rw[hreg,dr_t hb]at g;rw[dr_t hb]at hx
    rcases hlock with ⟨h,_⟩|⟨_,_,_,_,h⟩
    ·exact absurd h g
    ·rw[h]at hx;simp at hx
   ·rcases T.sec f g h with h|h
    ·exact .inl (Prot.drain hb h)
    ·exact .inr (Prot.drain hb h)
   ·rw[hreg,dr_t hb]at g;rw[dr_t hb]at hx
    rcases hlock with ⟨h,_⟩|⟨_,_,_,_,h⟩
    ·exact absurd h g
    ·rw[h]at hx;simp at hx
   ·rw[hreg,dr_vw hb,dr_t hb];have:=T.a;rw[hb]at this;exact LocA.drain _ this
   ·rw[hreg,dr_t hb];exact hbb
  ·exact (C.th u hu).mono (by rw[hreg]) (dr_u e1) (hown u e1) hm3 (fun h=>absurd h (hno u hu e1)) (fun _ _ h=>h) (fun q φ hq _ h=>hprot q φ h) (hL u e1)
 ·rcases hlock with ⟨h1,h2⟩|⟨h1,h2,h3,h4,h5⟩
  ·right;refine ⟨t,ht,by rw[hreg,dr_t hb];exact h1,?_,fun u hu hne=>by rw[hreg,dr_u hne];exact hno u hu hne⟩;rw[dr_val hb,if_neg (fun g=>h2 ⟨g.1.symm,g.2.symm⟩)]
   rcases C.lock with ⟨_,h⟩|⟨_,_,_,h,_⟩
   ·exact absurd hH (h t ht)
   ·exact h
  ·left;refine ⟨by rw[dr_val hb,if_pos ⟨h2.symm,h3.symm⟩];exact h4,fun u hu=>?_⟩;rw[hreg]
   by_cases e1:u=t
   ·subst e1;rw[dr_t hb];exact h1
   ·rw[dr_u e1];exact hno u hu e1
 ·rw[dr_val hb]
  split
  ·rename_i g;exact (h0 g.1.symm g.2.symm).1 f
  ·exact C.h0 f
 ·have h1:=C.h3 f;have h2:=hm3 f;refine ⟨by omega,?_⟩;rw[dr_val hb]
  split
  ·rename_i g;exact C.hb3 f t ht e (by rw[hb];simp) g.1.symm g.2.symm
  ·exact h1.2
 ·by_cases e1:u=t
  ·subst e1;exact hLt (C.all f u hu)
  ·exact (hL u e1).2 (C.all f u hu)
 ·by_cases e1:u=t
  ·subst e1;exact hJ f hj
  ·rw[hown u e1,hL u e1];exact C.j f u hu hj
theorem JS.drain{j:Nat}(C:Core X s p old L B)(ht:t<X.n)(hb:s.buf t=e :: r)(h:X.JS (s.buf t) s.val L t j)(hj:j≤4) :
  ∃L',X.JS r (s.dr t).val L' t j∧(e.a=X.hub∨(e.a=X.own t∧e.w≠0))∧(∀u,u≠t→(u∈L'↔u∈L))∧(t∈L→t∈L')∧X.Ch (s.dr t).val ((s.dr t).val X.hub 2) L'∧(e.a=X.hub→e.w≠0)∧
   ((¬(e.a=X.hub∧e.w=1))∨(e.a=X.hub∧e.w=1∧e.v=0∧r=[]∧j=4)):=by
 obtain ⟨i,F,hi,hbf,j1,j2,j3,j4,j5⟩:=h;rw[hb]at hbf;have hval:=fun x w=>dr_val hb x w;have hne:=X.ne
 have hch:e.a=X.hub∧e.w≠2∨e.a=X.own t∧e.w≠1∧e.w≠0→X.Ch (s.dr t).val ((s.dr t).val X.hub 2) L:=fun h=>by
  have h2:(s.dr t).val X.hub 2=s.val X.hub 2:=by
   rw[hval,if_neg];rintro ⟨a,b⟩
   rcases h with h|h
   ·exact h.2 b.symm
   ·exact hne t (h.1.symm.trans a.symm)
  rw[h2];refine Ch.mono (fun q hq=>?_) C.ch;rw[hval,if_neg];rintro ⟨a,b⟩
  rcases h with h|h
  ·exact hne q (a.trans h.1)
  ·exact h.2.1 b.symm
 match i,j,hi,hj,hbf,j1,j2,j3,j4,j5 with
 |0,1,_,_,hbf,j1,j2,j3,j4,j5=>
  obtain ⟨rfl,rfl⟩:e=⟨X.own t,1,F⟩∧r=[]:=by simpa[Cx.sq]using hbf
  obtain ⟨k1,k2⟩:=j1 (by omega)
  have v2:(s.dr t).val X.hub 2=s.val X.hub 2:=by rw[hval,if_neg (fun g=>hne t g.1.symm)]
  refine ⟨L,⟨1,F,by omega,rfl,fun _=>⟨k1,by rw[v2];exact k2⟩,fun _ _=>by rw[hval,if_pos ⟨rfl,rfl⟩],fun a=>by omega,fun _=>?_,fun a=>by omega⟩,.inr ⟨rfl,by simp⟩,fun _ _=>Iff.rfl,fun h=>h,?_,fun a=>absurd a (hne t),.inl fun a=>hne t a.1⟩
  ·rw[hval,if_neg (by simp)];exact j4 (by omega)
  ·rw[v2]
   have:∀ {l:List Nat} {x:Int},¬t∈l→X.Ch s.val x l→X.Ch (s.dr t).val x l:=by
    intro l
    induction l with
    |nil=>exact fun _ h=>h
    |cons q l ih=>
     intro x hn h;simp only[List.mem_cons,not_or]at hn;refine ⟨h.1,h.2.1,?_⟩
     have:(s.dr t).val (X.own q) 1=s.val (X.own q) 1:=by rw[hval,if_neg];rintro ⟨a,_⟩;exact hn.1 (X.inj _ _ a).symm
     rw[this];exact ih hn.2 h.2.2
   exact this k1 C.ch
 |0,2,_,_,hbf,j1,j2,j3,j4,j5=>
  obtain ⟨rfl,rfl⟩:e=⟨X.own t,1,F⟩∧r=[⟨X.hub,2,X.own t⟩]:=by simpa[Cx.sq]using hbf
  obtain ⟨k1,k2⟩:=j1 (by omega)
  have v2:(s.dr t).val X.hub 2=s.val X.hub 2:=by rw[hval,if_neg (fun g=>hne t g.1.symm)]
  refine ⟨L,⟨1,F,by omega,rfl,fun _=>⟨k1,by rw[v2];exact k2⟩,fun _ _=>by rw[hval,if_pos ⟨rfl,rfl⟩],fun a=>by omega,fun _=>?_,fun a=>by omega⟩,.inr ⟨rfl,by simp⟩,fun _ _=>Iff.rfl,fun h=>h,?_,fun a=>absurd a (hne t),.inl fun a=>hne t a.1⟩
  ·rw[hval,if_neg (by simp)];exact j4 (by omega)
  ·rw[v2]
   have:∀ {l:List Nat} {x:Int},¬t∈l→X.Ch s.val x l→X.Ch (s.dr t).val x l:=by
    intro l
    induction l with
    |nil=>exact fun _ h=>h
    |cons q l ih=>
     intro x hn h;simp only[List.mem_cons,not_or]at hn;refine ⟨h.1,h.2.1,?_⟩
     have:(s.dr t).val (X.own q) 1=s.val (X.own q) 1:=by rw[hval,if_neg];rintro ⟨a,_⟩;exact hn.1 (X.inj _ _ a).symm
     rw[this];exact ih hn.2 h.2.2
   exact this k1 C.ch
 |0,3,_,_,hbf,j1,j2,j3,j4,j5=>
  obtain ⟨rfl,rfl⟩:e=⟨X.own t,1,F⟩∧r=[⟨X.hub,2,X.own t⟩,⟨X.own t,2,1⟩]:=by simpa[Cx.sq]using hbf
  obtain ⟨k1,k2⟩:=j1 (by omega)
  have v2:(s.dr t).val X.hub 2=s.val X.hub 2:=by rw[hval,if_neg (fun g=>hne t g.1.symm)]
  refine ⟨L,⟨1,F,by omega,rfl,fun _=>⟨k1,by rw[v2];exact k2⟩,fun _ _=>by rw[hval,if_pos ⟨rfl,rfl⟩],fun a=>by omega,fun _=>?_,fun a=>by omega⟩,.inr ⟨rfl,by simp⟩,fun _ _=>Iff.rfl,fun h=>h,?_,fun a=>absurd a (hne t),.inl fun a=>hne t a.1⟩
  ·rw[hval,if_neg (by simp)];exact j4 (by omega)
  ·rw[v2]
   have:∀ {l:List Nat} {x:Int},¬t∈l→X.Ch s.val x l→X.Ch (s.dr t).val x l:=by
    intro l
    induction l with
    |nil=>exact fun _ h=>h
    |cons q l ih=>
     intro x hn h;simp only[List.mem_cons,not_or]at hn;refine ⟨h.1,h.2.1,?_⟩
     have:(s.dr t).val (X.own q) 1=s.val (X.own q) 1:=by rw[hval,if_neg];rintro ⟨a,_⟩;exact hn.1 (X.inj _ _ a).symm
     rw[this];exact ih hn.2 h.2.2
   exact this k1 C.ch
 |0,4,_,_,hbf,j1,j2,j3,j4,j5=>
  obtain ⟨rfl,rfl⟩:e=⟨X.own t,1,F⟩∧r=[⟨X.hub,2,X.own t⟩,⟨X.own t,2,1⟩,⟨X.hub,1,0⟩]:=by simpa[Cx.sq]using hbf
  obtain ⟨k1,k2⟩:=j1 (by omega)
  have v2:(s.dr t).val X.hub 2=s.val X.hub 2:=by rw[hval,if_neg (fun g=>hne t g.1.symm)]
  refine ⟨L,⟨1,F,by omega,rfl,fun _=>⟨k1,by rw[v2];exact k2⟩,fun _ _=>by rw[hval,if_pos ⟨rfl,rfl⟩],fun a=>by omega,fun _=>?_,fun a=>by omega⟩,.inr ⟨rfl,by simp⟩,fun _ _=>Iff.rfl,fun h=>h,?_,fun a=>absurd a (hne t),.inl fun a=>hne t a.1⟩
  ·rw[hval,if_neg (by simp)];exact j4 (by omega)
  ·rw[v2]
   have:∀ {l:List Nat} {x:Int},¬t∈l→X.Ch s.val x l→X.Ch (s.dr t).val x l:=by
    intro l
    induction l with
    |nil=>exact fun _ h=>h
    |cons q l ih=>
     intro x hn h;simp only[List.mem_cons,not_or]at hn;refine ⟨h.1,h.2.1,?_⟩
     have:(s.dr t).val (X.own q) 1=s.val (X.own q) 1:=by rw[hval,if_neg];rintro ⟨a,_⟩;exact hn.1 (X.inj _ _ a).symm
     rw[this];exact ih hn.2 h.2.2
   exact this k1 C.ch
 |1,j,hi,hj,hbf,j1,j2,j3,j4,j5=>
  obtain ⟨k1,k2⟩:=j1 (by omega);have k3:=j2 (by omega) (by omega)
  have hq:e=⟨X.hub,2,X.own t⟩∧r=((X.sq t F).take j).drop 2:=by
   rcases (by omega:j=1∨j=2∨j=3∨j=4)with rfl|rfl|rfl|rfl <;> first|(simp[Cx.sq]at hbf;done)|(simpa[Cx.sq]using hbf)
  have hj2:2≤j:=by
   refine Classical.byContradiction fun g=>?_
   obtain rfl:j=1:=by omega
   simp[Cx.sq]at hbf
  obtain ⟨rfl,hr⟩:=hq
  have v2:(s.dr t).val X.hub 2=X.own t:=by rw[hval,if_pos ⟨rfl,rfl⟩]
  have vo:∀u w,(s.dr t).val (X.own u) w=s.val (X.own u) w:=fun u w=>by rw[hval,if_neg (fun g=>hne u g.1)]
  refine ⟨t :: L,⟨2,F,by omega,hr,fun a=>by omega,fun _ a=>by omega,fun _=>by simp,fun _=>by rw[vo];exact j4 (by omega),fun a=>by omega⟩,.inl rfl,fun u hu=>by simp[hu],fun _=>by simp,?_,fun _=>by simp,.inl fun a=>by simp at a⟩;rw[v2];refine ⟨rfl,ht,?_⟩;rw[vo,k3,←k2]
  exact Ch.mono (fun q _=>vo q 1) C.ch
 |2,j,hi,hj,hbf,j1,j2,j3,j4,j5=>
  have hq:e=⟨X.own t,2,1⟩∧r=((X.sq t F).take j).drop 3:=by
   rcases (by omega:j=2∨j=3∨j=4)with rfl|rfl|rfl <;> first|(simp[Cx.sq]at hbf;done)|(simpa[Cx.sq]using hbf)
  have hj2:3≤j:=by
   refine Classical.byContradiction fun g=>?_
   obtain rfl:j=2:=by omega
   simp[Cx.sq]at hbf
  obtain ⟨rfl,hr⟩:=hq
  exact ⟨L,⟨3,F,by omega,hr,fun a=>by omega,fun _ a=>by omega,fun _=>j3 (by omega),fun a=>by omega,fun _=>by rw[hval,if_pos ⟨rfl,rfl⟩];show (1:Int)≠0;omega⟩,.inr ⟨rfl,by simp⟩,fun _ _=>Iff.rfl,fun h=>h,hch (.inr ⟨rfl,by simp,by simp⟩),fun a=>absurd a (hne t),.inl fun a=>hne t a.1⟩
 |3,j,hi,hj,hbf,j1,j2,j3,j4,j5=>
  have hj2:j=4:=by
   refine Classical.byContradiction fun g=>?_
   obtain rfl:j=3:=by omega
   simp[Cx.sq]at hbf
  subst hj2
  obtain ⟨rfl,rfl⟩:e=⟨X.hub,1,0⟩∧r=[]:=by simpa[Cx.sq]using hbf
  exact ⟨L,⟨4,F,by omega,rfl,fun a=>by omega,fun _ a=>by omega,fun _=>j3 (by omega),fun a=>by omega,fun _=>by rw[hval,if_neg (fun g=>hne t g.1)];exact j5 (by omega)⟩,.inl rfl,fun _ _=>Iff.rfl,fun h=>h,hch (.inl ⟨rfl,by simp⟩),fun _=>by simp,.inr ⟨rfl,rfl,rfl,rfl,rfl⟩⟩
 |4,j,hi,hj,hbf,j1,j2,j3,j4,j5=>
  obtain rfl:j=4:=by omega
  simp[Cx.sq]at hbf
 |0,0,hi,hj,hbf,j1,j2,j3,j4,j5=>simp[Cx.sq]at hbf
 |0,j+5,hi,hj,hbf,j1,j2,j3,j4,j5=>omega
 |i+5,j,hi,hj,hbf,j1,j2,j3,j4,j5=>omega
theorem Core.dr(C:Core X s p old L B)(ht:t<X.n):∃L',Core X (s.dr t) p old L' B:=by
 cases hb:s.buf t with
 |nil=>exact ⟨L,by unfold A.dr;rw[hb];exact C⟩
 |cons e r=>
  by_cases hH:Has (s.reg t) (s.buf t) (p t)
  ·have T:=C.th t ht;have Ta:=T.a;have Tb:=T.b
   have hhub:∀w,e=⟨X.hub,e.w,e.v⟩→w≠e.w→(s.dr t).val X.hub w=s.val X.hub w:=fun w h hw=>by rw[dr_val hb,if_neg (fun g=>hw g.2)]
   have hown:e.a=X.hub→∀u w,(s.dr t).val (X.own u) w=s.val (X.own u) w:=fun h u w=>by rw[dr_val hb,if_neg (fun g=>X.ne u (g.1.trans h))]
   have hno:∀q,q<X.n→old t q→∃c d,p q=.cl c d:=fun q hq ho=>by
    obtain ⟨c,d,h,_⟩:=C.old t q ht hq ho;exact ⟨c,d,h⟩
   have hold:∀q φ,q<X.n→old t q→X.Prot s q φ→X.Prot (s.dr t) q φ:=fun q φ hq ho h=>by
    by_cases e1:q=t
    ·subst e1;exact Prot.drain hb h
    ·obtain ⟨c,d,h1⟩:=hno q hq ho;refine Prot.drain_ne hb e1 (fun g=>?_) h;have hH2:=hH
     rcases C.lock with ⟨_,h4⟩|⟨_,_,_,_,_⟩
     ·exact h4 t ht hH
     ·cases hp:p t with
      |tk k j=>
       rw[hp]at Ta hH
       match j,Ta,hH with
       |4,Ta,_=>rw[show s.buf t=[]from Ta]at hb;cases hb
       |6,Ta,_=>rw[show s.buf t=[]from Ta]at hb;cases hb
      |jc j=>
       rw[hp]at Tb
       have hJS:∃j,j≤4∧X.JS (s.buf t) s.val L t j:=by
        match j,Tb with
        |0,Tb=>exact ⟨0,by omega,Tb.2⟩
        |1,Tb=>exact ⟨0,by omega,Tb.2.1⟩
        |2,Tb=>exact ⟨1,by omega,Tb.2⟩
        |3,Tb=>exact ⟨2,by omega,Tb.2⟩
        |4,Tb=>exact ⟨2,by omega,Tb.2.1⟩
        |j+5,Tb=>exact Tb.elim
       obtain ⟨j',h5,h6⟩:=hJS;obtain ⟨_,_,h7,_⟩:=JS.drain C ht hb h6 h5
       rcases h7 with h7|⟨h7,h8⟩
       ·exact X.ne q (g.1.trans h7)
       ·exact h8 g.2.symm
      |gv k j=>
       rw[hp]at Tb
       by_cases hk:k=0
       ·subst hk;have Tb':X.LGv0 (s.reg t) (s.buf t) s.val L t j:=Tb
        have hJS:∃j,j≤4∧X.JS (s.buf t) s.val L t j:=by
         match j,Tb' with
         |0,Tb=>exact ⟨3,by omega,Tb.2⟩
         |1,Tb=>exact ⟨3,by omega,Tb.2.1⟩
         |2,Tb=>exact ⟨4,by omega,Tb.2⟩
         |j+3,Tb=>exact Tb.elim
        obtain ⟨j',h5,h6⟩:=hJS;obtain ⟨_,_,h7,_⟩:=JS.drain C ht hb h6 h5
        rcases h7 with h7|⟨h7,h8⟩
        ·exact X.ne q (g.1.trans h7)
        ·exact h8 g.2.symm
       ·have Tb':(if k=0 then X.LGv0 (s.reg t) (s.buf t) s.val L t j else X.LGv (s.reg t) (s.buf t) (old t) k j):=Tb;rw[if_neg hk]at Tb';exact Tb'.2.1 q hq ho
      |wn gg j=>
       rw[hp]at Tb;obtain ⟨f3,Tb⟩:=Tb
       match j,Tb with
       |4,Tb=>
        obtain ⟨V,_,h5,_⟩:=Tb;rw[hb]at h5
        rcases h5 with h5|⟨h5,_⟩
        ·simp only[List.cons.injEq]at h5;rw[h5.1]at g;exact X.ne q g.1
        ·cases h5
       |0,Tb=>rw[Tb.1]at hb;cases hb
       |1,Tb=>rw[Tb.1]at hb;cases hb
       |2,Tb=>rw[Tb.1]at hb;cases hb
       |3,Tb=>rw[Tb.1]at hb;cases hb
       |5,Tb=>rw[Tb.1]at hb;cases hb
       |6,Tb=>rw[Tb.1]at hb;cases hb
       |7,Tb=>rw[Tb.1]at hb;cases hb
       |21,Tb=>rw[Tb.1]at hb;cases hb
       |22,Tb=>rw[Tb.1]at hb;cases hb
      |wx gg j=>rw[hp]at Tb;rw[Tb.2.1]at hb;cases hb
      |we=>rw[hp]at Tb;rw[Tb.2.1]at hb;cases hb
      |cs j=>
       rw[hp]at Tb;obtain ⟨f3,Tb⟩:=Tb
       match j,Tb with
       |4,Tb=>
        obtain ⟨V,h5,_⟩:=Tb;rw[hb]at h5
        rcases h5 with ⟨h5,_⟩|⟨h5,_⟩
        ·simp only[List.cons.injEq]at h5;rw[h5.1]at g;exact X.ne q g.1
        ·cases h5
       |0,Tb=>rw[show s.buf t=[]from Tb]at hb;cases hb
       |1,Tb=>rw[Tb.1]at hb;cases hb
       |2,Tb=>rw[Tb.1]at hb;cases hb
       |3,Tb=>rw[Tb.1]at hb;cases hb
       |5,Tb=>rw[Tb.1]at hb;cases hb
       |6,Tb=>rw[Tb.1]at hb;cases hb
       |7,Tb=>rw[Tb.1]at hb;cases hb
       |16,Tb=>rw[Tb.1]at hb;cases hb
       |17,Tb=>rw[Tb.1]at hb;cases hb
      |cx j=>rw[hp]at Tb;rw[Tb.2.1]at hb;cases hb
      |_=>rw[hp]at hH;exact hH.elim
   cases hp:p t with
   |tk k j=>
    rw[hp]at Ta hH
    match j,Ta,hH with
    |4,Ta,_=>rw[show s.buf t=[]from Ta]at hb;cases hb
    |6,Ta,_=>rw[show s.buf t=[]from Ta]at hb;cases hb
   |jc j=>
    rw[hp]at Tb hH
    have hst:∀i,i≤4→X.JS (s.buf t) s.val L t i→(∀L',X.JS r (s.dr t).val L' t i→X.LocB (s.reg t) r (s.dr t).val (X.Prot (s.dr t)) (old t) L' t (.jc j))→i<4→∃L',Core X (s.dr t) p old L' B:=fun i hi h1 h2 h3=>by
     obtain ⟨L',k1,k2,k3,k4,k5,k6,k7⟩:=JS.drain C ht hb h1 hi;refine ⟨L',C.drH ht hb hp hH k2 L' k3 k4 ?_ (fun a b=>absurd b (k6 a)) k5 (fun _ h=>absurd trivial h) (fun h=>h) (fun _ _ _ _=>trivial) (h2 L' k1)⟩
     rcases k7 with k7|k7
     ·exact .inl ⟨trivial,k7⟩
     ·omega
    match j,Tb,hst with
    |0,Tb,hst=>
     obtain ⟨i,F,h1,h2,_⟩:=Tb.2
     obtain rfl:i=0:=by omega
     rw[hb]at h2;cases h2
    |1,Tb,hst=>
     obtain ⟨i,F,h1,h2,_⟩:=Tb.2.1
     obtain rfl:i=0:=by omega
     rw[hb]at h2;cases h2
    |2,Tb,hst=>exact hst 1 (by omega) Tb.2 (fun L' h=>⟨Tb.1,h⟩) (by omega)
    |3,Tb,hst=>exact hst 2 (by omega) Tb.2 (fun L' h=>⟨Tb.1,h⟩) (by omega)
    |4,Tb,hst=>exact hst 2 (by omega) Tb.2.1 (fun L' h=>⟨Tb.1,h,Tb.2.2⟩) (by omega)
    |j+5,Tb,hst=>exact Tb.elim
   |gv k j=>
    rw[hp]at Tb hH
    by_cases hk:k=0
    ·subst hk;have Tb':X.LGv0 (s.reg t) (s.buf t) s.val L t j:=Tb
     have hst:∀i,i≤4→X.JS (s.buf t) s.val L t i→(∀L',X.JS r (s.dr t).val L' t i→X.LGv0 (s.reg t) r (s.dr t).val L' t j)→(i<4∧j<2∨j=2∧(r=[]→i=4))→∃L',Core X (s.dr t) p old L' B:=fun i hi h1 h2 h3=>by
      obtain ⟨L',k1,k2,k3,k4,k5,k6,k7⟩:=JS.drain C ht hb h1 hi;refine ⟨L',C.drH ht hb hp hH k2 L' k3 k4 ?_ (fun a b=>absurd b (k6 a)) k5 (fun _ h=>absurd trivial h) (fun h=>h) (fun _ _ _ _=>trivial) (h2 L' k1)⟩
      rcases h3 with ⟨g1,g2⟩|⟨g1,g2⟩
      ·rcases k7 with k7|k7
       ·refine .inl ⟨?_,k7⟩
        match j,g2 with
        |0,_=>trivial
        |1,_=>trivial
       ·omega
      ·subst g1
       rcases k7 with k7|⟨q1,q2,q3,q4,q5⟩
       ·refine .inl ⟨?_,k7⟩;show r≠[];intro hr;have:=g2 hr;subst this;obtain ⟨i',F,a1,a2,_⟩:=h1;rw[hb,hr]at a2;have hl:=congrArg List.length a2;simp[Cx.sq]at hl
        obtain rfl:i'=3:=by omega
        simp[Cx.sq]at a2;rw[a2]at k7;exact k7 ⟨rfl,rfl⟩
       ·exact .inr ⟨by rw[q4];simp[Has],q1,q2,q3,q4⟩
     match j,Tb',hst with
     |0,Tb,hst=>exact hst 3 (by omega) Tb.2 (fun L' h=>⟨Tb.1,h⟩) (.inl ⟨by omega,by omega⟩)
     |1,Tb,hst=>exact hst 3 (by omega) Tb.2.1 (fun L' h=>⟨Tb.1,h,Tb.2.2⟩) (.inl ⟨by omega,by omega⟩)
     |2,Tb,hst=>exact hst 4 (by omega) Tb.2 (fun L' h=>⟨Tb.1,h⟩) (.inr ⟨rfl,fun _=>rfl⟩)
     |j+3,Tb,hst=>exact Tb.elim
    ·have Tb':(if k=0 then X.LGv0 (s.reg t) (s.buf t) s.val L t j else X.LGv (s.reg t) (s.buf t) (old t) k j):=Tb;rw[if_neg hk]at Tb';obtain ⟨hf,ho,h1,h2,h3,h4⟩:=Tb'
     have hj:j=2:=by
      refine Classical.byContradiction fun g=>?_;have:=h1 (by omega);rw[this]at hb;cases hb
     subst hj;have h5:=h3 rfl;rw[hb]at h5
     rcases h5 with h5|h5
     ·simp only[List.cons.injEq]at h5;obtain ⟨rfl,rfl⟩:=h5;obtain ⟨k,rfl⟩:∃j,k=j+1:=⟨k - 1,by omega⟩;refine ⟨L,C.drH ht hb hp hH (.inl rfl) L (fun _ _=>Iff.rfl) (fun h=>h) (.inr ⟨by simp[Has],rfl,rfl,rfl,rfl⟩) (fun _ h=>by cases h) ?_ (fun f=>?_) (fun h=>h) (fun _ _ _ _=>trivial) ?_⟩
      ·rw[dr_val hb,if_neg (by simp)];exact Ch.mono (fun q _=>hown rfl q 1) C.ch
      ·intro hj;rw[hown rfl];exact C.j f t ht (by rw[hp];simp[joining])
      ·show (if k+1=0 then X.LGv0 (s.reg t) [] (s.dr t).val L t 2 else X.LGv (s.reg t) [] (old t) (k+1) 2);rw[if_neg hk];exact ⟨hf,ho,fun a=>by omega,h2,fun _=>.inr rfl,h4⟩
     ·cases h5
   |wn g j=>
    rw[hp]at Tb hH;obtain ⟨f3,Tb⟩:=Tb
    match j,Tb with
    |4,Tb=>
     obtain ⟨V,hV,h5,hT⟩:=Tb;rw[hb]at h5
     rcases h5 with h5|⟨h5,_⟩
     ·simp only[List.cons.injEq]at h5;obtain ⟨rfl,rfl⟩:=h5
      refine ⟨L,C.drH ht hb hp hH (.inl rfl) L (fun _ _=>Iff.rfl) (fun h=>h) (.inl ⟨trivial,by simp⟩) (fun _ _=>⟨fun _=>hV,fun f=>absurd f f3⟩) ?_ (fun f=>?_) (fun h=>h) (fun _ _ _ _=>trivial) ⟨f3,V,hV,.inr ⟨rfl,?_⟩,fun q hq ho=>(hT q hq ho).mono fun φ=>hold q φ hq ho⟩⟩
      ·rw[dr_val hb,if_neg (by simp)];exact Ch.mono (fun q _=>hown rfl q 1) C.ch
      ·intro hj;rw[hown rfl];exact C.j f t ht (by rw[hp];simp[joining])
      ·rw[dr_val hb,if_pos ⟨rfl,rfl⟩]
     ·cases h5
    |0,Tb=>rw[Tb.1]at hb;cases hb
    |1,Tb=>rw[Tb.1]at hb;cases hb
    |2,Tb=>rw[Tb.1]at hb;cases hb
    |3,Tb=>rw[Tb.1]at hb;cases hb
    |5,Tb=>rw[Tb.1]at hb;cases hb
    |6,Tb=>rw[Tb.1]at hb;cases hb
    |7,Tb=>rw[Tb.1]at hb;cases hb
    |21,Tb=>rw[Tb.1]at hb;cases hb
    |22,Tb=>rw[Tb.1]at hb;cases hb
   |wx g j=>rw[hp]at Tb;rw[Tb.2.1]at hb;cases hb
   |we=>rw[hp]at Tb;rw[Tb.2.1]at hb;cases hb
   |cs j=>
    rw[hp]at Tb hH;obtain ⟨f3,Tb⟩:=Tb
    match j,Tb with
    |4,Tb=>
     obtain ⟨V,h5,hT⟩:=Tb;rw[hb]at h5
     rcases h5 with ⟨h5,hV⟩|⟨h5,_⟩
     ·simp only[List.cons.injEq]at h5;obtain ⟨rfl,rfl⟩:=h5
      refine ⟨L,C.drH ht hb hp hH (.inl rfl) L (fun _ _=>Iff.rfl) (fun h=>h) (.inl ⟨trivial,by simp⟩) (fun _ _=>⟨fun f=>absurd f3 f,fun f=>by show s.val X.hub 0≤V;omega⟩) ?_ (fun f=>by omega) (fun h=>h) (fun _ _ _ _=>trivial) ⟨f3,V,.inr ⟨rfl,?_⟩,fun q hq ho=>hold q _ hq ho (hT q hq ho)⟩⟩
      ·rw[dr_val hb,if_neg (by simp)];exact Ch.mono (fun q _=>hown rfl q 1) C.ch
      ·rw[dr_val hb,if_pos ⟨rfl,rfl⟩]
     ·cases h5
    |0,Tb=>rw[show s.buf t=[]from Tb]at hb;cases hb
    |1,Tb=>rw[Tb.1]at hb;cases hb
    |2,Tb=>rw[Tb.1]at hb;cases hb
    |3,Tb=>rw[Tb.1]at hb;cases hb
    |5,Tb=>rw[Tb.1]at hb;cases hb
    |6,Tb=>rw[Tb.1]at hb;cases hb
    |7,Tb=>rw[Tb.1]at hb;cases hb
    |16,Tb=>rw[Tb.1]at hb;cases hb
    |17,Tb=>rw[Tb.1]at hb;cases hb
   |cx j=>rw[hp]at Tb;rw[Tb.2.1]at hb;cases hb
   |_=>rw[hp]at hH;exact hH.elim
  ·exact ⟨L,C.drN ht hb hH⟩
end Qg
end
section
namespace Qp
open Qu
inductive Ev (n:Nat):Gh→Gh→Prop
 |same (G:Gh):Ev n G G
 |put (G:Gh) (t:Nat) (v:Int) (r:List Int):t<n→G.rem t=v :: r→Ev n G {G with rem:=upd G.rem t r,chv:=v :: G.chv}
 |lose (G:Gh) (t:Nat) (v:Int) (r:List Int):t<n→G.rem t=v :: r→Ev n G {G with rem:=upd G.rem t r,lost:=v :: G.lost}
 |take (G:Gh) (t:Nat) (v:Int) (r:List Int):t<n→G.chv=v :: r→G.pend t=[]→Ev n G {G with chv:=r,pend:=upd G.pend t [v]}
 |mark (G:Gh) (t:Nat) (v:Int):t<n→G.pend t=[v]→Ev n G {G with pend:=upd G.pend t [],marks:=G.marks++[((t:Int),v)]}
theorem Ev.tot{n:Nat}{G G':Gh}(h:Ev n G G')(v:Int):G'.tot n v=G.tot n v:=by
 cases h with
 |same=>rfl
 |put t w r ht e=>
  unfold Gh.tot;simp only[count_upd];have h1:=sumN_upd (fun u=>(G.rem u).count v) t (r.count v) n ht;rw[e]at h1;simp only[List.count_cons]at h1 ⊢;omega
 |lose t w r ht e=>
  unfold Gh.tot;simp only[count_upd];have h1:=sumN_upd (fun u=>(G.rem u).count v) t (r.count v) n ht;rw[e]at h1;simp only[List.count_cons]at h1 ⊢;omega
 |take t w r ht e ep=>
  unfold Gh.tot;simp only[count_upd];have h1:=sumN_upd (fun u=>(G.pend u).count v) t ([w].count v) n ht;rw[ep]at h1;rw[e];simp only[List.count_cons,List.count_nil]at h1 ⊢;omega
 |mark t w ht ep=>
  unfold Gh.tot;simp only[count_upd];have h1:=sumN_upd (fun u=>(G.pend u).count v) t (([]:List Int).count v) n ht;rw[ep]at h1;rw[List.map_append,List.count_append];simp only[List.map_cons,List.map_nil,List.count_cons,List.count_nil]at h1 ⊢;omega
theorem Ev.num{n:Nat}{G G':Gh}(h:Ev n G G'):G'.num n=G.num n:=by
 cases h with
 |same=>rfl
 |put t w r ht e=>
  unfold Gh.num;simp only[len_upd];have h1:=sumN_upd (fun u=>(G.rem u).length) t r.length n ht;rw[e]at h1;simp only[List.length_cons]at h1 ⊢;omega
 |lose t w r ht e=>
  unfold Gh.num;simp only[len_upd];have h1:=sumN_upd (fun u=>(G.rem u).length) t r.length n ht;rw[e]at h1;simp only[List.length_cons]at h1 ⊢;omega
 |take t w r ht e ep=>
  unfold Gh.num;simp only[len_upd];have h1:=sumN_upd (fun u=>(G.pend u).length) t [w].length n ht;rw[ep]at h1;rw[e];simp only[List.length_cons,List.length_nil]at h1 ⊢;omega
 |mark t w ht ep=>
  unfold Gh.num;simp only[len_upd];have h1:=sumN_upd (fun u=>(G.pend u).length) t ([]:List Int).length n ht;rw[ep]at h1;simp only[List.length_append,List.length_cons,List.length_nil]at h1 ⊢;omega
inductive Evs (n:Nat):Gh→Gh→Prop
 |nil (G:Gh):Evs n G G
 |snoc {G G1 G2:Gh}:Evs n G G1→Ev n G1 G2→Evs n G G2
theorem Evs.tot{n:Nat}{G G':Gh}(h:Evs n G G')(v:Int):G'.tot n v=G.tot n v:=by
 induction h with
 |nil=>rfl
 |snoc _ e ih=>rw[e.tot,ih]
theorem Evs.num{n:Nat}{G G':Gh}(h:Evs n G G'):G'.num n=G.num n:=by
 induction h with
 |nil=>rfl
 |snoc _ e ih=>rw[e.num,ih]
end Qp
end
section
namespace Qo
open Qs Qg Qu
structure Mm where
 o:List Int
 h:List Int
 v:Int→Nat→Int
structure S where
 pc:Nat
 r:List Int
 m:Mm
 hr:Int→Bool
 ms:List Int
namespace S
end S
structure InRow(code:List Instr)(a:Nat)(B:List Instr):Prop where
 ins:∀(i:Nat) x,B[i]?=some x→code[a+i]?=some x
 ip:∀x∈B,InsP x
 jmp:∀x∈B,14≤x.op→x.op≤16→∃j,labelAt x.to B 0=some j∧labelAt x.to code 0=some (a+j)
variable {code B:List Instr}{a:Nat}{s s':S}{N:Int}{m:M}
variable {r:A}
end Qo
end
