/- The reference machine whole, in memory: threads, registers, marks, code. -/
import Derived.Test.YtciaficoeajeaaaGreatDoorWFm2
import Derived.Lib.Strings
set_option linter.unusedVariables false
set_option linter.unusedSimpArgs false
set_option linter.unusedSectionVars false
namespace Qh
open Go Go.RowKit Qs
def opStr:Nat→ByteArray
 |0=>⟨#[99,111,110,115,116]⟩
 |1=>⟨#[109,111,118,101]⟩
 |2=>⟨#[97,100,100]⟩
 |3=>⟨#[115,117,98]⟩
 |4=>⟨#[97,110,100]⟩
 |5=>⟨#[120,111,114]⟩
 |6=>⟨#[108,111,97,100]⟩
 |7=>⟨#[115,116,111,114,101]⟩
 |8=>⟨#[115,119,97,112]⟩
 |9=>⟨#[99,97,115]⟩
 |10=>⟨#[97,108,108,111,99]⟩
 |11=>⟨#[102,114,101,101]⟩
 |12=>⟨#[102,101,110,99,101]⟩
 |13=>⟨#[102,111,114,99,101]⟩
 |14=>⟨#[122,101,114,111]⟩
 |15=>⟨#[115,97,109,101]⟩
 |16=>⟨#[103,111,116,111]⟩
 |17=>⟨#[108,97,98,101,108]⟩
 |18=>⟨#[109,97,114,107]⟩
 |19=>⟨#[110,101,101,100]⟩
 |_=>⟨#[115,116,111,112]⟩
theorem op_cases(n:Nat):n=0∨n=1∨n=2∨n=3∨n=4∨n=5∨n=6∨n=7∨n=8∨n=9∨n=10∨n=11∨n=12∨n=13∨n=14∨n=15∨n=16∨n=17∨n=18∨n=19∨20≤n:=by omega
theorem opStr_stop{n:Nat}(h:n≤20):(opStr n).toList=[115,116,111,112]↔n=20:=by
 rw[Lib.toList_data]
 rcases op_cases n with rfl|rfl|rfl|rfl|rfl|rfl|rfl|rfl|rfl|rfl|rfl|rfl|rfl|rfl|rfl|rfl|rfl|rfl|rfl|rfl|h'
 all_goals first|(obtain rfl:n=20:=by omega);decide|decide
def sv(l:List UInt8):Value:=.string ⟨l.toArray⟩
def instrVals(x:Instr):List Value:=[.string (opStr x.op),iv x.A,iv x.B,iv x.C,sv x.to]
def isReg(n:Int)(k:Int):Prop:=0≤n∧n<k
def insOk(x:Instr):Prop:=
 match x.op with
 |0=>isReg x.A 8∧isWord x.B=true
 |1=>isReg x.A 8∧isReg x.B 8
 |2=>isReg x.A 8∧isReg x.B 8∧isReg x.C 8
 |3=>isReg x.A 8∧isReg x.B 8∧isReg x.C 8
 |4=>isReg x.A 8∧isReg x.B 8∧isReg x.C 8
 |5=>isReg x.A 8∧isReg x.B 8∧isReg x.C 8
 |6=>isReg x.A 8∧isReg x.B 8∧isReg x.C 4
 |7=>isReg x.A 8∧isReg x.B 8∧isReg x.C 4
 |8=>isReg x.A 8∧isReg x.B 8∧isReg x.C 4
 |9=>isReg x.A 8∧isReg x.B 7∧isReg x.C 4
 |10=>isReg x.A 8
 |11=>isReg x.A 8
 |12=>True
 |13=>True
 |14=>isReg x.A 8
 |15=>isReg x.A 8∧isReg x.B 8
 |16=>True
 |17=>True
 |18=>isReg x.A 8
 |19=>isReg x.A 8
 |20=>True
 |_=>False
theorem insOk_le{x:Instr}(h:insOk x):x.op≤20:=by
 unfold insOk at h
 split at h <;> first|omega|cases h
structure CodeOk(l:List Instr):Prop where
 len:l.length≤2000
 ins:∀x∈l,insOk x
 lab:∀x∈l,(x.op=14∨x.op=15∨x.op=16)→(labelAt x.to l 0).isSome=true
structure OkT(N:Int)(m:M):Prop where
 len:m.waits.length=m.T.length
 t1:1≤m.T.length
 regs:∀(t:Nat) h,m.T[t]?=some h→h.regs.length=8∧∀v∈h.regs,isWord v=true
 code:∀(t:Nat) h,m.T[t]?=some h→h.pc≤h.code.length∧CodeOk h.code
 marks:m.marks.length≤500
 f0:0≤m.faults∧m.faults≤N
structure CodeAt(w:World)(v:Value)(l:List Instr):Prop where
 at_:∃a c,v=.slice a l.length c∧c≤maxLen∧∀(i:Nat) x,l[i]?=some x→∃b off,a=some ⟨b,off,none⟩∧b<w.heap.size∧∀j y,(instrVals x)[j]?=some y→w.cell? ⟨b,off+i*5+j,none⟩=some y
variable {τ : Ty}{K:Nat→Bool}{w w':World}{L L':Lay}{m m':M}{N:Int}
theorem CodeAt.frame{F:Nat→Prop}{v:Value}{l:List Instr}(h:CodeAt w v l)(hM:Mod F w w')(hF:∀b,v.ownBlock=some b→¬F b):CodeAt w' v l:=by
 obtain ⟨a,c,rfl,hc,hx⟩:=h.at_;refine ⟨a,c,rfl,hc,fun i x hi=>?_⟩;obtain ⟨b,off,rfl,hlt,hcell⟩:=hx i x hi;exact ⟨b,off,rfl,Nat.lt_of_lt_of_le hlt hM.size,fun j y hj=>hM.cell (hcell j y hj) (hF b rfl)⟩
theorem OkM.mono(om:OkM N m){N':Int}(h:N≤N'):OkM N' m:=
 ⟨om.cells1,om.cells,om.words,fun i c hc=>⟨(om.times i c hc).1,Int.le_trans (om.times i c hc).2 h⟩,om.waits,om.wlen,fun t l hl x hx=>by
  obtain ⟨a,b,c,d,e,f,g⟩:=om.wval t l hl x hx
  exact ⟨a,b,c,d,e,f,Int.le_trans g h⟩,Int.le_trans om.N0 h⟩
theorem OkT.mono(ot:OkT N m){N':Int}(h:N≤N'):OkT N' m:=⟨ot.len,ot.t1,ot.regs,ot.code,ot.marks,⟨ot.f0.1,Int.le_trans ot.f0.2 h⟩⟩
end Qh
