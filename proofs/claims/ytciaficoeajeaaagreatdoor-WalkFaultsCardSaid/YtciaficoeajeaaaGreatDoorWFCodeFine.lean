/- Right code. -/
import Derived.Test.YtciaficoeajeaaaGreatDoorWFMach
import Derived.Test.YtciaficoeajeaaaGreatDoorWFm2
set_option linter.unusedVariables false
set_option linter.unusedSimpArgs false
set_option linter.unusedSectionVars false
namespace Qh
open Go Go.RowKit Qs
def regB(n k:Int):Bool:=decide (0≤n)&&decide (n<k)
def z0(n:Int):Bool:=decide (n=0)
def insFine(x:Instr):Bool:=
 match x.op with
 |0=>regB x.A 8&&regB x.B 4294967296&&z0 x.C&&x.to.isEmpty
 |1=>regB x.A 8&&regB x.B 8&&z0 x.C&&x.to.isEmpty
 |2=>regB x.A 8&&regB x.B 8&&regB x.C 8&&x.to.isEmpty
 |3=>regB x.A 8&&regB x.B 8&&regB x.C 8&&x.to.isEmpty
 |4=>regB x.A 8&&regB x.B 8&&regB x.C 8&&x.to.isEmpty
 |5=>regB x.A 8&&regB x.B 8&&regB x.C 8&&x.to.isEmpty
 |6=>regB x.A 8&&regB x.B 8&&regB x.C 4&&x.to.isEmpty
 |7=>regB x.A 8&&regB x.B 8&&regB x.C 4&&x.to.isEmpty
 |8=>regB x.A 8&&regB x.B 8&&regB x.C 4&&x.to.isEmpty
 |9=>regB x.A 8&&regB x.B 7&&regB x.C 4&&x.to.isEmpty
 |10=>regB x.A 8&&z0 x.B&&z0 x.C&&x.to.isEmpty
 |11=>regB x.A 8&&z0 x.B&&z0 x.C&&x.to.isEmpty
 |12=>z0 x.A&&z0 x.B&&z0 x.C&&x.to.isEmpty
 |13=>z0 x.A&&z0 x.B&&z0 x.C&&x.to.isEmpty
 |14=>regB x.A 8&&z0 x.B&&z0 x.C&&nameB x.to
 |15=>regB x.A 8&&regB x.B 8&&z0 x.C&&nameB x.to
 |16=>z0 x.A&&z0 x.B&&z0 x.C&&nameB x.to
 |17=>z0 x.A&&z0 x.B&&z0 x.C&&nameB x.to
 |18=>regB x.A 8&&z0 x.B&&z0 x.C&&x.to.isEmpty
 |19=>regB x.A 8&&z0 x.B&&z0 x.C&&x.to.isEmpty
 |20=>z0 x.A&&z0 x.B&&z0 x.C&&x.to.isEmpty
 |_=>false
structure CodeFine(l:List Instr):Prop where
 len:l.length≤2000
 ins:∀x∈l,insFine x=true
 set:∀(i:Nat) x,l[i]?=some x→x.op=17→labelAt x.to l 0=some i
 lab:∀x∈l,x.to≠[]→(labelAt x.to l 0).isSome=true
theorem regB_iff{n k:Int}(h:regB n k=true):isReg n k:=by
 unfold regB at h;simp only[Bool.and_eq_true,decide_eq_true_eq]at h;exact h
theorem nameB_ne{l:List UInt8}(h:nameB l=true):l≠[]:=fun e=>by rw[e]at h;cases h
theorem insFine_ok{x:Instr}(h:insFine x=true):insOk x:=by
 unfold insFine at h;unfold insOk
 split at h <;> first
  |(rename_i heq;simp only[heq];done)
  | (simp only [Bool.and_eq_true] at h
     obtain ⟨⟨⟨h1,h2⟩,h3⟩,h4⟩:=h
     rename_i heq
     simp only[heq]
     first
      |exact regB_iff h1
      |exact ⟨regB_iff h1,regB_iff h2⟩
      |exact ⟨regB_iff h1,regB_iff h2,regB_iff h3⟩
      |(have:=regB_iff h2;exact ⟨regB_iff h1,by unfold isWord W32;simp only[Bool.and_eq_true,decide_eq_true_eq];exact this⟩))
  |cases h
theorem insFine_jump{x:Instr}(h:insFine x=true)(hj:x.op=14∨x.op=15∨x.op=16∨x.op=17):nameB x.to=true:=by
 unfold insFine at h
 rcases hj with e|e|e|e <;> (rw[e]at h;simp only[Bool.and_eq_true]at h;exact h.2)
theorem CodeFine.ok{l:List Instr}(h:CodeFine l):CodeOk l:=
 ⟨h.len,fun x hx=>insFine_ok (h.ins x hx),fun x hx hj=>h.lab x hx (nameB_ne (insFine_jump (h.ins x hx) (hj.elim .inl fun e=>.inr (e.elim .inl fun e=>.inr (.inl e)))))⟩
end Qh
