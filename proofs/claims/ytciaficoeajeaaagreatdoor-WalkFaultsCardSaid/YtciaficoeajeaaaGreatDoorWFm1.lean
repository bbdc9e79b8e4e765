/- Texts that belong together, joined. -/

set_option linter.unusedVariables false
set_option linter.unusedSimpArgs false
set_option linter.unusedSectionVars false
section
namespace Qs
structure Instr where
 op:Nat
 A:Int
 B:Int
 C:Int
 to:List UInt8
deriving DecidableEq
structure Cell where
 words:List Int
 times:Int
 here:Bool
deriving DecidableEq
structure Wt where
 c:Int
 g:Int
 w:Int
 v:Int
deriving DecidableEq
structure Thr where
 code:List Instr
 regs:List Int
 pc:Nat
deriving DecidableEq
structure M where
 cells:List Cell
 waits:List (List Wt)
 T:List Thr
 marks:List (Int × Int)
 faults:Int
deriving DecidableEq
abbrev W32:Int:=4294967296
def isWord(n:Int):Bool:=decide (0≤n)&&decide (n<W32)
def cellAt(l:List Cell)(c:Int):Option Cell:=if c<0 then none else l[c.toNat]?
def hereIn(l:List Cell)(c g:Int):Bool:=
 match cellAt l c with
 |some x=>x.here&&decide (g=x.times - 1)
 |none=>false
def refOf(n:Int):Option (Int × Int):=
 if n=0 then none else if isWord n then some ((n - 1) % 64,(n - 1)/64)else none
def wordOf(c g:Int):Int:=
 if 0≤c∧c<64∧0≤g∧g≤67108864∧isWord (g*64+c+1)then g*64+c+1 else 0
def setWord(l:List Cell)(c:Nat)(w:Nat)(v:Int):List Cell:=
 l.modify c fun x=>{x with words:=x.words.set w v}
def getWord(l:List Cell)(c:Nat)(w:Nat):Int:=((l[c]?).map fun x=>x.words.getD w 0).getD 0
def look(ws:List Wt)(c g w:Int)(v:Int):Int:=
 ws.foldl (fun v x=>if x.c=c∧x.g=g∧x.w=w then x.v else v) v
def drain1(l:List Cell)(x:Wt):List Cell × Bool:=
 if hereIn l x.c x.g then (setWord l x.c.toNat x.w.toNat x.v,false)else (l,true)
def drainAll:List Cell→List Wt→List Cell × Nat
 |l,[]=>(l,0)
 |l,x :: r=>
  let a:=drain1 l x
  let b:=drainAll a.1 r
  (b.1,b.2+(if a.2 then 1 else 0))
def M.waitsOf(m:M)(t:Nat):List Wt:=m.waits.getD t []
def M.fence(m:M)(t:Nat):M:=
 let a:=drainAll m.cells (m.waitsOf t)
 {m with cells:=a.1,waits:=m.waits.set t [],faults:=m.faults+a.2}
def M.force(m:M):Nat→M
 |0=>m
 |k+1=>(m.force k).fence k
def M.drain(m:M)(t:Nat):M × Int:=
 match m.waitsOf t with
 |[]=>(m,5)
 |x :: r=>
  let a:=drain1 m.cells x
  ({m with cells:=a.1,waits:=m.waits.set t r,faults:=m.faults+(if a.2 then 1 else 0)},0)
def labelAt(to:List UInt8):List Instr→Nat→Option Nat
 |[],_=>none
 |x :: r,i=>if x.op=17∧x.to=to then some i else labelAt to r (i+1)
def allocAt:List Cell→Nat→Option (Nat × Int)
 |[],_=>none
 |x :: r,i=>if x.here then allocAt r (i+1)else some (i,x.times)
def Thr.reg(h:Thr)(a:Int):Int:=h.regs.getD a.toNat 0
def M.thr(m:M)(t:Nat):Thr:=m.T.getD t ⟨[],[],0⟩
def M.setReg(m:M)(t:Nat)(a:Int)(v:Int):M:=
 {m with T:=m.T.modify t fun h=>{h with regs:=h.regs.set a.toNat v}}
def M.setPc(m:M)(t:Nat)(p:Nat):M:=
 {m with T:=m.T.modify t fun h=>{h with pc:=p}}
def M.names(m:M)(n:Int):Option (Int × Int):=
 match refOf n with
 |some (c,g)=>if hereIn m.cells c g then some (c,g)else none
 |none=>none
def M.fault(m:M):M:={m with faults:=m.faults+1}
def M.done(m:M)(t:Nat):Bool:=
 match (m.thr t).code[(m.thr t).pc]? with
 |none=>true
 |some x=>x.op==20
def M.jump(m:M)(t:Nat)(to:List UInt8):M:=m.setPc t ((labelAt to (m.thr t).code 0).getD 0)
def sum2(op:Nat)(a b:Int):Int:=
 match op with
 |2=>if a+b≥W32 then a+b - W32 else a+b
 |3=>if a - b<0 then a - b+W32 else a - b
 |4=>((a.toNat &&& b.toNat:Nat):Int)
 |_=>((a.toNat ^^^ b.toNat:Nat):Int)
def M.exec(m:M)(t:Nat)(x:Instr):M:=
 let h:=m.thr t
 match x.op with
 |0=>m.setReg t x.A x.B
 |1=>m.setReg t x.A (h.reg x.B)
 |2=>m.setReg t x.A (sum2 2 (h.reg x.B) (h.reg x.C))
 |3=>m.setReg t x.A (sum2 3 (h.reg x.B) (h.reg x.C))
 |4=>m.setReg t x.A (sum2 4 (h.reg x.B) (h.reg x.C))
 |5=>m.setReg t x.A (sum2 5 (h.reg x.B) (h.reg x.C))
 |6=>match m.names (h.reg x.B)with
  |some (c,g)=>m.setReg t x.A (look (m.waitsOf t) c g x.C (getWord m.cells c.toNat x.C.toNat))
  |none=>m.fault.setReg t x.A 0
 |7=>match m.names (h.reg x.A)with
  |some (c,g)=>
   let m1:=if (m.waitsOf t).length≥8 then (m.drain t).1 else m
   {m1 with waits:=m1.waits.modify t fun l=>l++[⟨c,g,x.C,h.reg x.B⟩]}
  |none=>m.fault
 |8=>match m.names (h.reg x.B)with
  |some (c,_)=>
   let m1:=m.fence t
   ({m1 with cells:=setWord m1.cells c.toNat x.C.toNat (h.reg x.A)}:M).setReg t x.A (getWord m1.cells c.toNat x.C.toNat)
  |none=>m.fault.setReg t x.A 0
 |9=>match m.names (h.reg x.A)with
  |some (c,_)=>
   let m1:=m.fence t
   let v:=getWord m1.cells c.toNat x.C.toNat
   (if v=h.reg x.B then ({m1 with cells:=setWord m1.cells c.toNat x.C.toNat (h.reg (x.B+1))}:M)else m1).setReg t x.B v
  |none=>m.fault.setReg t x.B 0
 |10=>match allocAt m.cells 0 with
  |some (i,n)=>({m with cells:=m.cells.set i ⟨[0,0,0,0],n+1,true⟩}:M).setReg t x.A (wordOf i n)
  |none=>m.setReg t x.A 0
 |11=>match m.names (h.reg x.A)with
  |some (c,_)=>
   let m1:=m.fence t
   {m1 with cells:=m1.cells.modify c.toNat fun y=>{y with here:=false}}
  |none=>m.fault
 |12=>m.fence t
 |13=>m.force m.T.length
 |14=>if h.reg x.A=0 then m.jump t x.to else m
 |15=>if h.reg x.A=h.reg x.B then m.jump t x.to else m
 |16=>m.jump t x.to
 |18=>if m.marks.length<500 then {m with marks:=m.marks++[((t:Int),h.reg x.A)]}else m
 |19=>if h.reg x.A=0 then m.fault else m
 |_=>m
def M.step(m:M)(t:Nat):M × Int:=
 match (m.thr t).code[(m.thr t).pc]? with
 |none=>(m,9)
 |some x=>if x.op=20 then (m,9)else ((m.setPc t ((m.thr t).pc+1)).exec t x,0)
def M.turn(m:M)(n:Int):M × Int:=
 let k:=(n % (2*(m.T.length:Int))).toNat
 if k<m.T.length then m.step k else m.drain (k - m.T.length)
def M.run:M→List Int→M × Int
 |m,[]=>(m,0)
 |m,n :: r=>
  let a:=m.turn n
  let b:=a.1.run r
  (b.1,b.2+(if a.2=0 then 1 else 0))
def M.rest(m:M):Bool:=(List.range m.T.length).all fun t=>m.done t&&(m.waitsOf t).isEmpty
end Qs
end
section
namespace Qs
def vint(n:Nat):List Nat:=if h:n<128 then [n]else (n % 128+128) :: vint (n/128)
termination_by n
decreasing_by omega
theorem vint_lo{n:Nat}(h:n<128):vint n=[n]:=by rw[vint,dif_pos h]
theorem vint_hi{n:Nat}(h:128≤n):vint n=(n % 128+128) :: vint (n/128):=by rw[vint,dif_neg (by omega)]
theorem vint_len:∀(k n:Nat),n<128 ^ (k+1)→(vint n).length≤k+1
 |0,n,h=>by rw[vint_lo (by simpa using h)];simp
 |k+1,n,h=>by
  by_cases hn:n<128
  ·rw[vint_lo hn];simp
  ·rw[vint_hi (by omega)]
   have:=vint_len k (n/128) (by
    rw[Nat.pow_succ]at h
    exact Nat.div_lt_of_lt_mul (by omega))
   simp only[List.length_cons];omega
theorem vint_byte:∀(k n:Nat),n<128 ^ (k+1)→∀b∈vint n,b<256
 |0,n,h,b,hb=>by
  have h':n<128:=by simpa using h
  rw[vint_lo h']at hb;simp at hb;omega
 |k+1,n,h,b,hb=>by
  by_cases hn:n<128
  ·rw[vint_lo hn]at hb;simp at hb;omega
  ·rw[vint_hi (by omega)]at hb
   rcases List.mem_cons.1 hb with e|e
   ·omega
   ·exact vint_byte k (n/128) (by
     rw[Nat.pow_succ]at h
     exact Nat.div_lt_of_lt_mul (by omega)) b e
theorem vint_inj:∀(n m:Nat) (r s:List Nat),vint n++r=vint m++s→n=m∧r=s:=by
 intro n
 induction n using Nat.strongRecOn with
 |_ n ih=>
  intro m r s h
  by_cases hn:n<128
  ·rw[vint_lo hn]at h
   by_cases hm:m<128
   ·rw[vint_lo hm]at h;simpa using h
   ·rw[vint_hi (by omega)]at h;simp only[List.cons_append,List.nil_append,List.cons.injEq]at h;omega
  ·rw[vint_hi (by omega)]at h
   by_cases hm:m<128
   ·rw[vint_lo hm]at h;simp only[List.cons_append,List.nil_append,List.cons.injEq]at h;omega
   ·rw[vint_hi (n:=m) (by omega)]at h;simp only[List.cons_append,List.cons.injEq]at h;obtain ⟨h1,h2⟩:=ih (n/128) (by omega) (m/128) r s h.2;exact ⟨by omega,h2⟩
end Qs
end
