/- Texts that belong together, joined. -/
import Derived.Test.YtppihkneeolomaaGreatDoorSSm1
set_option linter.unusedVariables false
set_option linter.unusedSimpArgs false
set_option linter.unusedSectionVars false
set_option maxHeartbeats 2000000
section
namespace Qg
open Qs
variable {X:Cx}{s s':A}{p:Nat→Pos}{old old':Nat→Nat→Prop}{L L':List Nat}{B:Int}{t u:Nat}
def Jmp(s:A)(t:Nat)(x:Instr):Prop:=(x.op=14∧s.reg t x.A.toNat=0)∨(x.op=15∧s.reg t x.A.toNat=s.reg t x.B.toNat)∨x.op=16
def NextOk(f:Nat)(P q:Pos):Prop:=match fallOf f P with
 |some q'=>q=q'
 |none=>∃d,startD f q=some d∧d<100∧(f≠3→d=dOut P)∧(P=.gn 2→q=.fin)
theorem Th.pc{P:Pos}(h:Th X s old L u P)(k:Nat):Th X (s.setP t k) old L u P:=⟨h.r6,h.r7,h.buf,h.vw,h.rng,h.sec,h.il,h.nb,h.ok,h.a,h.c,h.b⟩
theorem Core.pc(C:Core X s p old L B)(t k:Nat):Core X (s.setP t k) p old L B:=⟨fun u hu=>(C.th u hu).pc k,C.lock,C.h0,C.h3,C.hb3,C.ch,C.all,C.j,C.old⟩
theorem Core.step(C:Core X s p old L B)(ht:t<X.n){x:Instr}(hx:insOf X.f (p t)=some (x.op,x.A,x.B,x.C))
  (hb:x.op=9∨x.op=12→s.buf t=[]) (hb2:x.op=13→∀u,u<X.n→s.buf u=[]) (O:∀r,r<X.n→X.own r≠0) (hB:B<4000000000) {q:Pos}
  (hj:Jmp s t x→q=tgtOf (p t)) (hf:¬Jmp s t x→NextOk X.f (p t) q) (tg:Nat):Core X (s.ex t x tg) (upd p t q) old L (B+2):=by
 obtain ⟨op,xa,xb,xc,to⟩:=x;have T:=C.th t ht;have Ta:=T.a;have Tb:=T.b
 have hup:B≤B+2:=by omega
 have r6:=T.r6;have r7:=T.r7;simp only at hx hb hb2
 cases hp:p t with
 |fin=>rw[hp]at hx;cases hx
 |cl c d=>rw[hp]at hx;cases hx
 |dead=>rw[hp]at hx;cases hx
 |ent d j=>
  rw[hp]at hx hj hf Ta Tb
  match j,hp,hx,hj,hf,Ta,Tb with
  |0,hp,hx,hj,hf,Ta,Tb=>
   cases hx;have hq:q=.ent d 1:=hf (by simp[Jmp]);rw[hq];exact (g_ent0 C ht hp (v:=s.vw t (s.reg t 6) 0) (by rw[r6])).up hup
  |1,hp,hx,hj,hf,Ta,Tb=>
   cases hx;have hq:q=.ent d 2:=hf (by simp[Jmp]);rw[hq];exact (g_ent1 C ht hp rfl).up hup
  |2,hp,hx,hj,hf,Ta,Tb=>
   cases hx;have hq:q=.ent d 3:=hf (by simp[Jmp]);rw[hq];exact (g_ent2 C ht hp rfl).up hup
  |3,hp,hx,hj,hf,Ta,Tb=>
   cases hx
   by_cases h0:s.reg t 1=0
   ·have hq:q=.ent d 8:=hj (by simp[Jmp];exact h0);rw[hq];rw[show s.ex t ⟨14,1,0,0,to⟩ tg=s.setP t tg from if_pos h0];exact ((g_ent3j C ht hp h0).up hup).pc t tg
   ·have hq:q=.ent d 4:=hf (by simp[Jmp];exact h0);rw[hq];rw[show s.ex t ⟨14,1,0,0,to⟩ tg=s from if_neg h0];exact (g_ent3f C ht hp h0).up hup
  |4,hp,hx,hj,hf,Ta,Tb=>
   cases hx;have hq:q=.ent d 5:=hf (by simp[Jmp]);rw[hq];exact (g_ent4 C ht hp rfl).up hup
  |5,hp,hx,hj,hf,Ta,Tb=>
   cases hx;have hq:q=.ent d 6:=hf (by simp[Jmp]);rw[hq];exact (g_ent5 C ht hp rfl).up hup
  |6,hp,hx,hj,hf,Ta,Tb=>
   cases hx;have hq:q=.ent d 7:=hf (by simp[Jmp]);rw[hq];rw[show s.ex t ⟨7,6,0,0,to⟩ tg=s.setB t (s.buf t++[⟨s.reg t 6,0,s.reg t 0⟩])from rfl,r6];exact (g_ent6 C ht hp rfl).up hup
  |7,hp,hx,hj,hf,Ta,Tb=>
   cases hx;have hq:q=.ent d 12:=hj (by simp[Jmp]);rw[hq];exact ((g_ent7 C ht hp).up hup).pc t tg
  |8,hp,hx,hj,hf,Ta,Tb=>
   cases hx;have hq:q=.ent d 9:=hf (by simp[Jmp]);rw[hq];exact (g_ent8 C ht hp).up hup
  |9,hp,hx,hj,hf,Ta,Tb=>
   cases hx;have hq:q=.ent d 10:=hf (by simp[Jmp]);rw[hq];exact (g_ent9 C ht hp (v:=s.vw t (s.reg t 7) 0) (by rw[r7])).up hup
  |10,hp,hx,hj,hf,Ta,Tb=>
   cases hx;have hq:q=.ent d (if X.f=2 then 12 else 11):=hf (by simp[Jmp]);rw[hq];rw[show s.ex t ⟨7,6,0,0,to⟩ tg=s.setB t (s.buf t++[⟨s.reg t 6,0,s.reg t 0⟩])from rfl,r6];exact (g_ent10 C ht hp rfl).up hup
  |11,hp,hx,hj,hf,Ta,Tb=>
   cases hx;have hq:q=.ent d 12:=hf (by simp[Jmp]);rw[hq];exact (g_ent11 C ht hp (hb (by simp))).up hup
  |12,hp,hx,hj,hf,Ta,Tb=>
   cases hx;obtain ⟨d0,hq,hd,hd2,_⟩:∃d0,startD X.f q=some d0∧d0<100∧(X.f≠3→d0=dOut (.ent d 12))∧((.ent d 12:Pos)=.gn 2→q=.fin):=hf (by simp[Jmp]);have he:d0=d+1:=hd2 Tb;subst he;exact (g_ent12 C ht hp hq hd).up hup
  |j+13,hp,hx,hj,hf,Ta,Tb=>cases hx
 |lea d j=>
  rw[hp]at hx hj hf Ta Tb
  match j,hp,hx,hj,hf,Ta,Tb with
  |0,hp,hx,hj,hf,Ta,Tb=>
   cases hx;have hq:q=.lea d 1:=hf (by simp[Jmp]);rw[hq];exact (g_lea0 C ht hp).up hup
  |1,hp,hx,hj,hf,Ta,Tb=>
   cases hx;have hq:q=.lea d 2:=hf (by simp[Jmp]);rw[hq];exact (g_lea1 C ht hp (v:=s.vw t (s.reg t 6) 0) (by rw[r6])).up hup
  |2,hp,hx,hj,hf,Ta,Tb=>
   cases hx;have hq:q=.lea d 3:=hf (by simp[Jmp]);rw[hq];exact (g_lea2 C ht hp rfl).up hup
  |3,hp,hx,hj,hf,Ta,Tb=>
   cases hx;have hq:q=.lea d 4:=hf (by simp[Jmp]);rw[hq];exact (g_lea3 C ht hp rfl).up hup
  |4,hp,hx,hj,hf,Ta,Tb=>
   cases hx;obtain ⟨d0,hq,hd,hd2,_⟩:∃d0,startD X.f q=some d0∧d0<100∧(X.f≠3→d0=dOut (.lea d 4))∧((.lea d 4:Pos)=.gn 2→q=.fin):=hf (by simp[Jmp]);have he:d0=d - 1:=hd2 Tb;subst he;rw[show s.ex t ⟨7,6,0,0,to⟩ tg=s.setB t (s.buf t++[⟨s.reg t 6,0,s.reg t 0⟩])from rfl,r6]
   exact (g_lea4 C ht hp rfl hq hd).up hup
  |j+5,hp,hx,hj,hf,Ta,Tb=>cases hx
 |jh d j=>
  rw[hp]at hx hj hf Ta Tb
  match j,hp,hx,hj,hf,Ta,Tb with
  |0,hp,hx,hj,hf,Ta,Tb=>
   cases hx;have hq:q=.jh d 1:=hf (by simp[Jmp]);rw[hq];exact (g_jh0 C ht hp (v:=s.vw t (s.reg t 6) 2) (by rw[r6])).up hup
  |1,hp,hx,hj,hf,Ta,Tb=>
   cases hx
   by_cases h0:s.reg t 0=0
   ·by_cases hd:d=0
    ·subst hd;have hq:q=.jh 0 3:=hj (by simp[Jmp];exact h0);rw[hq];rw[show s.ex t ⟨14,0,0,0,to⟩ tg=s.setP t tg from if_pos h0];exact ((g_jh1j C ht hp h0).up hup).pc t tg
    ·exact (g_jh1d C ht (by omega) hp h0).elim
   ·have hq:q=.jh d 2:=hf (by simp[Jmp];exact h0);rw[hq];rw[show s.ex t ⟨14,0,0,0,to⟩ tg=s from if_neg h0];exact (g_jh1f C ht hp h0).up hup
  |2,hp,hx,hj,hf,Ta,Tb=>
   cases hx;have hq:q=.jk d:=hj (by simp[Jmp]);rw[hq];exact ((g_jh2 C ht hp).up hup).pc t tg
  |3,hp,hx,hj,hf,Ta,Tb=>
   cases hx;have hd:d=0:=(Tb.2.2.1 rfl).2;subst hd;have hq:q=.tk 0 0:=hf (by simp[Jmp]);rw[hq];exact (g_jh3 C ht hp).up hup
  |j+4,hp,hx,hj,hf,Ta,Tb=>cases hx
 |jc j=>
  rw[hp]at hx hj hf Ta Tb
  match j,hp,hx,hj,hf,Ta,Tb with
  |0,hp,hx,hj,hf,Ta,Tb=>
   cases hx;have hq:q=.jc 1:=hf (by simp[Jmp]);rw[hq];exact (g_jc0 C ht hp (v:=s.vw t (s.reg t 7) 2) (by rw[r7])).up hup
  |1,hp,hx,hj,hf,Ta,Tb=>
   cases hx;have hq:q=.jc 2:=hf (by simp[Jmp]);rw[hq];rw[show s.ex t ⟨7,6,0,1,to⟩ tg=s.setB t (s.buf t++[⟨s.reg t 6,1,s.reg t 0⟩])from rfl,r6];exact (g_jc1 C ht hp rfl).up hup
  |2,hp,hx,hj,hf,Ta,Tb=>
   cases hx;have hq:q=.jc 3:=hf (by simp[Jmp]);rw[hq];rw[show s.ex t ⟨7,7,6,2,to⟩ tg=s.setB t (s.buf t++[⟨s.reg t 7,2,s.reg t 6⟩])from rfl,r7];exact (g_jc2 C ht hp rfl).up hup
  |3,hp,hx,hj,hf,Ta,Tb=>
   cases hx;have hq:q=.jc 4:=hf (by simp[Jmp]);rw[hq];exact (g_jc3 C ht hp rfl).up hup
  |4,hp,hx,hj,hf,Ta,Tb=>
   cases hx;have hq:q=.gv 0 0:=hf (by simp[Jmp]);rw[hq];rw[show s.ex t ⟨7,6,0,2,to⟩ tg=s.setB t (s.buf t++[⟨s.reg t 6,2,s.reg t 0⟩])from rfl,r6];exact (g_jc4 C ht hp rfl).up hup
  |j+5,hp,hx,hj,hf,Ta,Tb=>cases hx
 |jk d=>
  rw[hp]at hx hj hf;cases hx;have hq:q=.ent d 0:=hf (by simp[Jmp]);rw[hq];exact (g_jk C ht hp).up hup
 |tk k j=>
  rw[hp]at hx hj hf Ta Tb;have hk3:k<3:=Tb.2.2.2
  match k,j,hk3,hp,hx,hj,hf,Ta,Tb with
  |0,0,hk3,hp,hx,hj,hf,Ta,Tb=>
   cases hx;have hq:q=.tk 0 1:=hf (by simp[Jmp]);rw[hq];exact (g_tk0 C ht hp).up hup
  |0,1,hk3,hp,hx,hj,hf,Ta,Tb=>
   cases hx;have hq:q=.tk 0 2:=hf (by simp[Jmp]);rw[hq];exact (g_tk1 C ht hp rfl).up hup
  |0,2,hk3,hp,hx,hj,hf,Ta,Tb=>
   cases hx;have hq:q=.tk 0 3:=hf (by simp[Jmp]);rw[hq];exact (g_tk2 C ht hp rfl).up hup
  |0,3,hk3,hp,hx,hj,hf,Ta,Tb=>
   cases hx;have hq:q=.tk 0 4:=hf (by simp[Jmp]);rw[hq];rw[show s.ex t ⟨9,7,0,1,to⟩ tg=(if s.val (s.reg t 7) 1=s.reg t 0 then s.put ⟨s.reg t 7,1,s.reg t 1⟩else s).setR t 0 (s.val (s.reg t 7) 1)from rfl,r7];exact (g_cas C ht hp (hb (by simp))).up hup
  |0,4,hk3,hp,hx,hj,hf,Ta,Tb=>
   cases hx
   by_cases h0:s.reg t 0=0
   ·have hq:q=.tk 0 6:=hj (by simp[Jmp];exact h0);rw[hq];rw[show s.ex t ⟨14,0,0,0,to⟩ tg=s.setP t tg from if_pos h0];exact ((g_tk4j C ht hp h0).up hup).pc t tg
   ·have hq:q=.tk 0 5:=hf (by simp[Jmp];exact h0);rw[hq];rw[show s.ex t ⟨14,0,0,0,to⟩ tg=s from if_neg h0];exact (g_tk4f C ht hp h0).up hup
  |0,5,hk3,hp,hx,hj,hf,Ta,Tb=>
   cases hx;have hq:q=.tk 0 0:=hj (by simp[Jmp]);rw[hq];exact ((g_tk5 C ht hp).up hup).pc t tg
  |0,6,hk3,hp,hx,hj,hf,Ta,Tb=>
   cases hx;have hq:q=.jc 0:=hf (by simp[Jmp]);rw[hq];exact (g_tk60 C ht hp).up hup
  |1,0,hk3,hp,hx,hj,hf,Ta,Tb=>
   cases hx;have hq:q=.tk 1 1:=hf (by simp[Jmp]);rw[hq];exact (g_tk0 C ht hp).up hup
  |1,1,hk3,hp,hx,hj,hf,Ta,Tb=>
   cases hx;have hq:q=.tk 1 2:=hf (by simp[Jmp]);rw[hq];exact (g_tk1 C ht hp rfl).up hup
  |1,2,hk3,hp,hx,hj,hf,Ta,Tb=>
   cases hx;have hq:q=.tk 1 3:=hf (by simp[Jmp]);rw[hq];exact (g_tk2 C ht hp rfl).up hup
  |1,3,hk3,hp,hx,hj,hf,Ta,Tb=>
   cases hx;have hq:q=.tk 1 4:=hf (by simp[Jmp]);rw[hq];rw[show s.ex t ⟨9,7,0,1,to⟩ tg=(if s.val (s.reg t 7) 1=s.reg t 0 then s.put ⟨s.reg t 7,1,s.reg t 1⟩else s).setR t 0 (s.val (s.reg t 7) 1)from rfl,r7];exact (g_cas C ht hp (hb (by simp))).up hup
  |1,4,hk3,hp,hx,hj,hf,Ta,Tb=>
   cases hx
   by_cases h0:s.reg t 0=0
   ·have hq:q=.tk 1 6:=hj (by simp[Jmp];exact h0);rw[hq];rw[show s.ex t ⟨14,0,0,0,to⟩ tg=s.setP t tg from if_pos h0];exact ((g_tk4j C ht hp h0).up hup).pc t tg
   ·have hq:q=.tk 1 5:=hf (by simp[Jmp];exact h0);rw[hq];rw[show s.ex t ⟨14,0,0,0,to⟩ tg=s from if_neg h0];exact (g_tk4f C ht hp h0).up hup
  |1,5,hk3,hp,hx,hj,hf,Ta,Tb=>
   cases hx;have hq:q=.tk 1 0:=hj (by simp[Jmp]);rw[hq];exact ((g_tk5 C ht hp).up hup).pc t tg
  |1,6,hk3,hp,hx,hj,hf,Ta,Tb=>
   cases hx;have hq:q=.wn false 0:=hf (by simp[Jmp]);rw[hq];exact (g_tk61 C ht hp).up hup
  |2,0,hk3,hp,hx,hj,hf,Ta,Tb=>
   cases hx;have hq:q=.tk 2 1:=hf (by simp[Jmp]);rw[hq];exact (g_tk0 C ht hp).up hup
  |2,1,hk3,hp,hx,hj,hf,Ta,Tb=>
   cases hx;have hq:q=.tk 2 2:=hf (by simp[Jmp]);rw[hq];exact (g_tk1 C ht hp rfl).up hup
  |2,2,hk3,hp,hx,hj,hf,Ta,Tb=>
   cases hx;have hq:q=.tk 2 3:=hf (by simp[Jmp]);rw[hq];exact (g_tk2 C ht hp rfl).up hup
  |2,3,hk3,hp,hx,hj,hf,Ta,Tb=>
   cases hx;have hq:q=.tk 2 4:=hf (by simp[Jmp]);rw[hq];rw[show s.ex t ⟨9,7,0,1,to⟩ tg=(if s.val (s.reg t 7) 1=s.reg t 0 then s.put ⟨s.reg t 7,1,s.reg t 1⟩else s).setR t 0 (s.val (s.reg t 7) 1)from rfl,r7];exact (g_cas C ht hp (hb (by simp))).up hup
  |2,4,hk3,hp,hx,hj,hf,Ta,Tb=>
   cases hx
   by_cases h0:s.reg t 0=0
   ·have hq:q=.tk 2 6:=hj (by simp[Jmp];exact h0);rw[hq];rw[show s.ex t ⟨14,0,0,0,to⟩ tg=s.setP t tg from if_pos h0];exact ((g_tk4j C ht hp h0).up hup).pc t tg
   ·have hq:q=.tk 2 5:=hf (by simp[Jmp];exact h0);rw[hq];rw[show s.ex t ⟨14,0,0,0,to⟩ tg=s from if_neg h0];exact (g_tk4f C ht hp h0).up hup
  |2,5,hk3,hp,hx,hj,hf,Ta,Tb=>
   cases hx;have hq:q=.tk 2 0:=hj (by simp[Jmp]);rw[hq];exact ((g_tk5 C ht hp).up hup).pc t tg
  |2,6,hk3,hp,hx,hj,hf,Ta,Tb=>
   cases hx;have hq:q=.cs 0:=hf (by simp[Jmp]);rw[hq];exact (g_tk62 C ht hp).up hup
  |k+3,j,hk3,hp,hx,hj,hf,Ta,Tb=>omega
  |0,j+7,hk3,hp,hx,hj,hf,Ta,Tb=>cases hx
  |1,j+7,hk3,hp,hx,hj,hf,Ta,Tb=>cases hx
  |2,j+7,hk3,hp,hx,hj,hf,Ta,Tb=>cases hx
 |gv k j=>
  rw[hp]at hx hj hf Ta Tb
  have hk3:k<3:=by
   by_cases hk:k=0
   ·omega
   ·have Tb':(if k=0 then X.LGv0 (s.reg t) (s.buf t) s.val L t j else X.LGv (s.reg t) (s.buf t) (old t) k j):=Tb;rw[if_neg hk]at Tb';have:=Tb'.1;omega
  match k,j,hk3,hp,hx,hj,hf,Ta,Tb with
  |0,0,hk3,hp,hx,hj,hf,Ta,Tb=>
   cases hx;have hq:q=.gv 0 1:=hf (by simp[Jmp]);rw[hq];exact (g_gv00 C ht hp rfl).up hup
  |0,1,hk3,hp,hx,hj,hf,Ta,Tb=>
   cases hx;have hq:q=.gv 0 2:=hf (by simp[Jmp]);rw[hq];rw[show s.ex t ⟨7,7,0,1,to⟩ tg=s.setB t (s.buf t++[⟨s.reg t 7,1,s.reg t 0⟩])from rfl,r7];exact (g_gv01 C ht hp rfl).up hup
  |0,2,hk3,hp,hx,hj,hf,Ta,Tb=>
   cases hx;have hq:q=.jk 0:=hf (by simp[Jmp]);rw[hq];exact (g_gv02 C ht hp (hb (by simp))).up hup
  |1,0,hk3,hp,hx,hj,hf,Ta,Tb=>
   cases hx;have hq:q=.gv 1 1:=hf (by simp[Jmp]);rw[hq];exact (g_gv0 C ht hp (by omega) rfl).up hup
  |1,1,hk3,hp,hx,hj,hf,Ta,Tb=>
   cases hx;have hq:q=.gv 1 2:=hf (by simp[Jmp]);rw[hq];rw[show s.ex t ⟨7,7,0,1,to⟩ tg=s.setB t (s.buf t++[⟨s.reg t 7,1,s.reg t 0⟩])from rfl,r7];exact (g_gv1 C ht hp (by omega) rfl).up hup
  |1,2,hk3,hp,hx,hj,hf,Ta,Tb=>
   cases hx;obtain ⟨d0,hq,hd,hd2,_⟩:∃d0,startD X.f q=some d0∧d0<100∧(X.f≠3→d0=dOut (.gv 1 2))∧((.gv 1 2:Pos)=.gn 2→q=.fin):=hf (by simp[Jmp]);have Tb':X.LGv (s.reg t) (s.buf t) (old t) 1 2:=Tb
   have f3:X.f≠3:=by rcases Tb'.1 with h|h <;> omega
   have he:d0=0:=hd2 f3;subst he;exact (g_gv12 C ht hp (hb (by simp)) hq).up hup
  |2,0,hk3,hp,hx,hj,hf,Ta,Tb=>
   cases hx;have hq:q=.gv 2 1:=hf (by simp[Jmp]);rw[hq];exact (g_gv0 C ht hp (by omega) rfl).up hup
  |2,1,hk3,hp,hx,hj,hf,Ta,Tb=>
   cases hx;have hq:q=.gv 2 2:=hf (by simp[Jmp]);rw[hq];rw[show s.ex t ⟨7,7,0,1,to⟩ tg=s.setB t (s.buf t++[⟨s.reg t 7,1,s.reg t 0⟩])from rfl,r7];exact (g_gv1 C ht hp (by omega) rfl).up hup
  |2,2,hk3,hp,hx,hj,hf,Ta,Tb=>
   cases hx;have hq:q=.cr 0:=hf (by simp[Jmp]);rw[hq];exact (g_gv22 C ht hp (hb (by simp))).up hup
  |k+3,j,hk3,hp,hx,hj,hf,Ta,Tb=>omega
  |0,j+3,hk3,hp,hx,hj,hf,Ta,Tb=>cases hx
  |1,j+3,hk3,hp,hx,hj,hf,Ta,Tb=>cases hx
  |2,j+3,hk3,hp,hx,hj,hf,Ta,Tb=>cases hx
 |wb=>
  rw[hp]at hx hj hf;have hx2:some ((barOp X.f:Nat),(0:Int),(0:Int),(0:Int))=some (op,xa,xb,xc):=hx;cases hx2;have hq:q=.tk 1 0:=hf (by simp[Jmp,barOp];split <;> simp);rw[hq]
  have he:s.ex t ⟨barOp X.f,0,0,0,to⟩ tg=s:=by
   unfold barOp
   split <;> rfl
  rw[he]
  have hbb:s.buf t=[]:=by
   by_cases f2:X.f=2
   ·exact hb2 (by unfold barOp;rw[if_pos f2]) t ht
   ·exact hb (.inr (by unfold barOp;rw[if_neg f2]))
  exact (g_wb C ht hp hbb (fun f2=>hb2 (by unfold barOp;rw[if_pos f2]))).up hup
 |we=>
  rw[hp]at hx hj hf;have hx2:some ((barOp X.f:Nat),(0:Int),(0:Int),(0:Int))=some (op,xa,xb,xc):=hx;cases hx2;have hq:q=.gv 1 0:=hf (by simp[Jmp,barOp];split <;> simp);rw[hq]
  have he:s.ex t ⟨barOp X.f,0,0,0,to⟩ tg=s:=by
   unfold barOp
   split <;> rfl
  rw[he]
  have hbb:s.buf t=[]:=by
   by_cases f2:X.f=2
   ·exact hb2 (by unfold barOp;rw[if_pos f2]) t ht
   ·exact hb (.inr (by unfold barOp;rw[if_neg f2]))
  exact (g_we C ht hp).up hup
 |wn g j=>
  rw[hp]at hx hj hf Ta Tb
  have hg:∀j,j≠22→j≠7→fallOf X.f (.wn g j)=some (.wn g (j+1)):=fun j h1 h2=>by
   cases g <;> (unfold fallOf;split <;> simp_all)
  match j,hp,hx,hj,hf,Ta,Tb with
  |0,hp,hx,hj,hf,Ta,Tb=>
   cases hx
   have hq:q=.wn g 1:=by have:=hf (by simp[Jmp]);unfold NextOk at this;rw[hg _ (by omega) (by omega)]at this;exact this
   rw[hq];exact (g_wn0 C ht hp (v:=s.vw t (s.reg t 7) 0) (by rw[r7])).up hup
  |1,hp,hx,hj,hf,Ta,Tb=>
   cases hx
   have hq:q=.wn g 2:=by have:=hf (by simp[Jmp]);unfold NextOk at this;rw[hg _ (by omega) (by omega)]at this;exact this
   rw[hq];exact (g_wn1 C ht hp rfl).up hup
  |2,hp,hx,hj,hf,Ta,Tb=>
   cases hx
   have hq:q=.wn g 3:=by have:=hf (by simp[Jmp]);unfold NextOk at this;rw[hg _ (by omega) (by omega)]at this;exact this
   rw[hq];exact (g_wn2 C ht hp rfl).up hup
  |3,hp,hx,hj,hf,Ta,Tb=>
   cases hx
   have hq:q=.wn g 4:=by have:=hf (by simp[Jmp]);unfold NextOk at this;rw[hg _ (by omega) (by omega)]at this;exact this
   rw[hq];rw[show s.ex t ⟨7,7,0,0,to⟩ tg=s.setB t (s.buf t++[⟨s.reg t 7,0,s.reg t 0⟩])from rfl,r7];exact (g_wn3 C ht hp rfl).up hup
  |4,hp,hx,hj,hf,Ta,Tb=>
   have hx2:some ((barOp X.f:Nat),(0:Int),(0:Int),(0:Int))=some (op,xa,xb,xc):=hx;cases hx2
   have hq:q=.wn g 5:=by have:=hf (by simp[Jmp,barOp];split <;> simp);unfold NextOk at this;rw[hg _ (by omega) (by omega)]at this;exact this
   rw[hq]
   have he:s.ex t ⟨barOp X.f,0,0,0,to⟩ tg=s:=by
    unfold barOp
    split <;> rfl
   rw[he]
   have hbb:s.buf t=[]:=by
    by_cases f2:X.f=2
    ·exact hb2 (by unfold barOp;rw[if_pos f2]) t ht
    ·exact hb (.inr (by unfold barOp;rw[if_neg f2]))
   exact (g_wn4 C ht hp hbb).up hup
  |5,hp,hx,hj,hf,Ta,Tb=>
   cases hx
   have hq:q=.wn g 6:=by have:=hf (by simp[Jmp]);unfold NextOk at this;rw[hg _ (by omega) (by omega)]at this;exact this
   rw[hq];exact (g_wn5 C ht hp (v:=s.vw t (s.reg t 7) 2) (by rw[r7])).up hup
  |6,hp,hx,hj,hf,Ta,Tb=>
   cases hx
   have hq:q=.wn g 7:=by have:=hf (by simp[Jmp]);unfold NextOk at this;rw[hg _ (by omega) (by omega)]at this;exact this
   rw[hq];exact (g_wn6 C ht hp).up hup
  |7,hp,hx,hj,hf,Ta,Tb=>
   cases hx
   by_cases h0:s.reg t 2=0
   ·have hq:q=.wn g 22:=hj (by simp[Jmp];exact h0);rw[hq];rw[show s.ex t ⟨14,2,0,0,to⟩ tg=s.setP t tg from if_pos h0];exact ((g_wn7j C ht hp h0 O).up hup).pc t tg
   ·have hq:q=.wx g 8:=by cases g <;> exact hf (by simp[Jmp];exact h0)
    rw[hq];rw[show s.ex t ⟨14,2,0,0,to⟩ tg=s from if_neg h0];exact (g_wn7f C ht hp h0).up hup
  |8,hp,hx,hj,hf,Ta,Tb=>
   cases hx
  |9,hp,hx,hj,hf,Ta,Tb=>
   cases hx
  |10,hp,hx,hj,hf,Ta,Tb=>
   cases hx
  |11,hp,hx,hj,hf,Ta,Tb=>
   cases hx
  |12,hp,hx,hj,hf,Ta,Tb=>
   cases hx
  |13,hp,hx,hj,hf,Ta,Tb=>
   cases hx
  |14,hp,hx,hj,hf,Ta,Tb=>
   cases hx
  |15,hp,hx,hj,hf,Ta,Tb=>
   cases hx
  |16,hp,hx,hj,hf,Ta,Tb=>
   cases hx
  |17,hp,hx,hj,hf,Ta,Tb=>
   cases hx
  |18,hp,hx,hj,hf,Ta,Tb=>
   cases hx
  |19,hp,hx,hj,hf,Ta,Tb=>
   cases hx
  |20,hp,hx,hj,hf,Ta,Tb=>
   cases hx
  |21,hp,hx,hj,hf,Ta,Tb=>
   cases hx;have hq:q=.wn g 6:=hj (by simp[Jmp]);rw[hq];exact ((g_wn21 C ht hp).up hup).pc t tg
  |22,hp,hx,hj,hf,Ta,Tb=>
   cases hx
   cases g with
   |false=>
    have hq:q=.wn true 0:=hf (by simp[Jmp]);rw[hq];exact (g_wn22f C ht hp).up hup
   |true=>
    have hq:q=.we:=hf (by simp[Jmp]);rw[hq];exact (g_wn22t C ht hp).up hup
  |j+23,hp,hx,hj,hf,Ta,Tb=>cases hx
 |wx g j=>
  rw[hp]at hx hj hf Ta Tb
  match j,hp,hx,hj,hf,Ta,Tb with
  |0,hp,hx,hj,hf,Ta,Tb=>
   cases hx
  |1,hp,hx,hj,hf,Ta,Tb=>
   cases hx
  |2,hp,hx,hj,hf,Ta,Tb=>
   cases hx
  |3,hp,hx,hj,hf,Ta,Tb=>
   cases hx
  |4,hp,hx,hj,hf,Ta,Tb=>
   cases hx
  |5,hp,hx,hj,hf,Ta,Tb=>
   cases hx
  |6,hp,hx,hj,hf,Ta,Tb=>
   cases hx
  |7,hp,hx,hj,hf,Ta,Tb=>
   cases hx
  |8,hp,hx,hj,hf,Ta,Tb=>
   cases hx;have hq:q=.wx g 9:=hf (by simp[Jmp]);rw[hq];exact (g_wx8 C ht hp).up hup
  |9,hp,hx,hj,hf,Ta,Tb=>
   cases hx;have hq:q=.wx g 10:=hf (by simp[Jmp]);rw[hq];exact (g_wx9 C ht hp rfl).up hup
  |10,hp,hx,hj,hf,Ta,Tb=>
   cases hx;have hq:q=.wx g 11:=hf (by simp[Jmp]);rw[hq];exact (g_wx10 C ht hp rfl).up hup
  |11,hp,hx,hj,hf,Ta,Tb=>
   cases hx;have hq:q=.wx g 12:=hf (by simp[Jmp]);rw[hq];exact (g_wx11 C ht hp rfl).up hup
  |12,hp,hx,hj,hf,Ta,Tb=>
   cases hx
   by_cases h0:s.reg t 1=0
   ·have hq:q=.wx g 19:=hj (by simp[Jmp];exact h0);rw[hq];rw[show s.ex t ⟨14,1,0,0,to⟩ tg=s.setP t tg from if_pos h0];exact ((g_wx12j C ht hp h0).up hup).pc t tg
   ·have hq:q=.wx g 13:=hf (by simp[Jmp];exact h0);rw[hq];rw[show s.ex t ⟨14,1,0,0,to⟩ tg=s from if_neg h0];exact (g_wx12f C ht hp h0).up hup
  |13,hp,hx,hj,hf,Ta,Tb=>
   cases hx;have hq:q=.wx g 14:=hf (by simp[Jmp]);rw[hq];exact (g_wx13 C ht hp (v:=s.vw t (s.reg t 7) 0) (by rw[r7])).up hup
  |14,hp,hx,hj,hf,Ta,Tb=>
   cases hx;have hq:q=.wx g 15:=hf (by simp[Jmp]);rw[hq];exact (g_wx14 C ht hp rfl).up hup
  |15,hp,hx,hj,hf,Ta,Tb=>
   cases hx;have hq:q=.wx g 16:=hf (by simp[Jmp]);rw[hq];exact (g_wx15 C ht hp rfl).up hup
  |16,hp,hx,hj,hf,Ta,Tb=>
   cases hx;have hq:q=.wx g 17:=hf (by simp[Jmp]);rw[hq];exact (g_wx16 C ht hp rfl).up hup
  |17,hp,hx,hj,hf,Ta,Tb=>
   cases hx
   by_cases h0:s.reg t 1=0
   ·have hq:q=.wx g 19:=hj (by simp[Jmp];exact h0);rw[hq];rw[show s.ex t ⟨14,1,0,0,to⟩ tg=s.setP t tg from if_pos h0];exact ((g_wx17j C ht hp h0).up hup).pc t tg
   ·have hq:q=.wx g 18:=hf (by simp[Jmp];exact h0);rw[hq];rw[show s.ex t ⟨14,1,0,0,to⟩ tg=s from if_neg h0];exact (g_wx17f C ht hp h0).up hup
  |18,hp,hx,hj,hf,Ta,Tb=>
   cases hx;have hq:q=.wx g 8:=hj (by simp[Jmp]);rw[hq];exact ((g_wx18 C ht hp).up hup).pc t tg
  |19,hp,hx,hj,hf,Ta,Tb=>
   cases hx;have hq:q=.wx g 20:=hf (by simp[Jmp]);rw[hq];exact (g_wx19 C ht hp).up hup
  |20,hp,hx,hj,hf,Ta,Tb=>
   cases hx;have hq:q=.wn g 21:=hf (by simp[Jmp]);rw[hq];exact (g_wx20 C ht hp rfl).up hup
  |j+21,hp,hx,hj,hf,Ta,Tb=>cases hx
 |rs j=>
  rw[hp]at hx hj hf Ta Tb
  match j,hp,hx,hj,hf,Ta,Tb with
  |0,hp,hx,hj,hf,Ta,Tb=>
   cases hx;have hq:q=.rs 1:=hf (by simp[Jmp]);rw[hq];exact (g_rs0 C ht hp (v:=s.vw t (s.reg t 7) 0) (by rw[r7])).up hup
  |1,hp,hx,hj,hf,Ta,Tb=>
   cases hx;have hq:q=.rs 2:=hf (by simp[Jmp]);rw[hq];rw[show s.ex t ⟨7,6,0,0,to⟩ tg=s.setB t (s.buf t++[⟨s.reg t 6,0,s.reg t 0⟩])from rfl,r6];exact (g_rs1 C ht hp rfl).up hup
  |2,hp,hx,hj,hf,Ta,Tb=>
   cases hx;obtain ⟨d0,hq,hd,hd2,_⟩:∃d0,startD X.f q=some d0∧d0<100∧(X.f≠3→d0=dOut (.rs 2))∧((.rs 2:Pos)=.gn 2→q=.fin):=hf (by simp[Jmp]);exact (g_rs2 C ht hp (hb (by simp)) hq hd).up hup
  |j+3,hp,hx,hj,hf,Ta,Tb=>cases hx
 |gn j=>
  rw[hp]at hx hj hf Ta Tb
  match j,hp,hx,hj,hf,Ta,Tb with
  |0,hp,hx,hj,hf,Ta,Tb=>
   cases hx;have hq:q=.gn 1:=hf (by simp[Jmp]);rw[hq];exact (g_gn0 C ht hp rfl).up hup
  |1,hp,hx,hj,hf,Ta,Tb=>
   cases hx;have hq:q=.gn 2:=hf (by simp[Jmp]);rw[hq];rw[show s.ex t ⟨7,6,0,0,to⟩ tg=s.setB t (s.buf t++[⟨s.reg t 6,0,s.reg t 0⟩])from rfl,r6];exact (g_own3 C ht hp (.inl ⟨rfl,rfl⟩)).up hup
  |2,hp,hx,hj,hf,Ta,Tb=>
   cases hx;obtain ⟨d0,_,_,_,hq⟩:∃d0,startD X.f q=some d0∧d0<100∧(X.f≠3→d0=dOut (.gn 2))∧((Pos.gn 2:Pos)=.gn 2→q=.fin):=hf (by simp[Jmp]);rw[hq rfl];exact (g_gn2 C ht hp (hb (by simp))).up hup
  |j+3,hp,hx,hj,hf,Ta,Tb=>cases hx
 |ca j=>
  rw[hp]at hx hj hf Ta Tb
  match j,hp,hx,hj,hf,Ta,Tb with
  |0,hp,hx,hj,hf,Ta,Tb=>
   cases hx;have hq:q=.ca 1:=hf (by simp[Jmp]);rw[hq];exact (g_ca0 C ht hp rfl).up hup
  |1,hp,hx,hj,hf,Ta,Tb=>
   cases hx;have hq:q=.ca 2:=hf (by simp[Jmp]);rw[hq];rw[show s.ex t ⟨7,6,0,0,to⟩ tg=s.setB t (s.buf t++[⟨s.reg t 6,0,s.reg t 0⟩])from rfl,r6];exact (g_own3 C ht hp (.inr ⟨rfl,rfl⟩)).up hup
  |2,hp,hx,hj,hf,Ta,Tb=>
   cases hx;have hq:q=.tk 2 0:=hf (by simp[Jmp]);rw[hq];exact (g_ca2 C ht hp (hb (by simp))).up hup
  |j+3,hp,hx,hj,hf,Ta,Tb=>cases hx
 |cr j=>
  rw[hp]at hx hj hf Ta Tb
  match j,hp,hx,hj,hf,Ta,Tb with
  |0,hp,hx,hj,hf,Ta,Tb=>
   cases hx;have hq:q=.cr 1:=hf (by simp[Jmp]);rw[hq];exact (g_cr0 C ht hp (v:=s.vw t (s.reg t 7) 0) (by rw[r7])).up hup
  |1,hp,hx,hj,hf,Ta,Tb=>
   cases hx;have hq:q=.cr 2:=hf (by simp[Jmp]);rw[hq];rw[show s.ex t ⟨7,6,0,0,to⟩ tg=s.setB t (s.buf t++[⟨s.reg t 6,0,s.reg t 0⟩])from rfl,r6];exact (g_cr1 C ht hp rfl).up hup
  |2,hp,hx,hj,hf,Ta,Tb=>
   cases hx;obtain ⟨d0,hq,hd,hd2,_⟩:∃d0,startD X.f q=some d0∧d0<100∧(X.f≠3→d0=dOut (.cr 2))∧((.cr 2:Pos)=.gn 2→q=.fin):=hf (by simp[Jmp]);exact (g_cr2 C ht hp (hb (by simp)) hq hd).up hup
  |j+3,hp,hx,hj,hf,Ta,Tb=>cases hx
 |cs j=>
  rw[hp]at hx hj hf Ta Tb
  match j,hp,hx,hj,hf,Ta,Tb with
  |0,hp,hx,hj,hf,Ta,Tb=>
   cases hx;have hq:q=.cs 1:=hf (by simp[Jmp]);rw[hq];exact (g_cs0 C ht hp (v:=s.vw t (s.reg t 7) 0) (by rw[r7])).up hup
  |1,hp,hx,hj,hf,Ta,Tb=>
   cases hx;have hq:q=.cs 2:=hf (by simp[Jmp]);rw[hq];exact (g_cs1 C ht hp rfl).up hup
  |2,hp,hx,hj,hf,Ta,Tb=>
   cases hx;have hq:q=.cs 3:=hf (by simp[Jmp]);rw[hq];exact (g_cs2 C ht hp hB rfl).up hup
  |3,hp,hx,hj,hf,Ta,Tb=>
   cases hx;have hq:q=.cs 4:=hf (by simp[Jmp]);rw[hq];rw[show s.ex t ⟨7,7,0,0,to⟩ tg=s.setB t (s.buf t++[⟨s.reg t 7,0,s.reg t 0⟩])from rfl,r7];exact g_cs3 C ht hp rfl
  |4,hp,hx,hj,hf,Ta,Tb=>
   cases hx;have hq:q=.cs 5:=hf (by simp[Jmp]);rw[hq];exact (g_cs4 C ht hp (hb (by simp))).up hup
  |5,hp,hx,hj,hf,Ta,Tb=>
   cases hx;have hq:q=.cs 6:=hf (by simp[Jmp]);rw[hq];exact (g_cs5 C ht hp (v:=s.vw t (s.reg t 7) 2) (by rw[r7])).up hup
  |6,hp,hx,hj,hf,Ta,Tb=>
   cases hx;have hq:q=.cs 7:=hf (by simp[Jmp]);rw[hq];exact (g_cs6 C ht hp).up hup
  |7,hp,hx,hj,hf,Ta,Tb=>
   cases hx
   by_cases h0:s.reg t 2=0
   ·have hq:q=.cs 17:=hj (by simp[Jmp];exact h0);rw[hq];rw[show s.ex t ⟨14,2,0,0,to⟩ tg=s.setP t tg from if_pos h0];exact ((g_cs7j C ht hp h0 O).up hup).pc t tg
   ·have hq:q=.cx 8:=hf (by simp[Jmp];exact h0);rw[hq];rw[show s.ex t ⟨14,2,0,0,to⟩ tg=s from if_neg h0];exact (g_cs7f C ht hp h0).up hup
  |8,hp,hx,hj,hf,Ta,Tb=>
   cases hx
  |9,hp,hx,hj,hf,Ta,Tb=>
   cases hx
  |10,hp,hx,hj,hf,Ta,Tb=>
   cases hx
  |11,hp,hx,hj,hf,Ta,Tb=>
   cases hx
  |12,hp,hx,hj,hf,Ta,Tb=>
   cases hx
  |13,hp,hx,hj,hf,Ta,Tb=>
   cases hx
  |14,hp,hx,hj,hf,Ta,Tb=>
   cases hx
  |15,hp,hx,hj,hf,Ta,Tb=>
   cases hx
  |16,hp,hx,hj,hf,Ta,Tb=>
   cases hx;have hq:q=.cs 6:=hj (by simp[Jmp]);rw[hq];exact ((g_cs16 C ht hp).up hup).pc t tg
  |17,hp,hx,hj,hf,Ta,Tb=>
   cases hx;have hq:q=.gv 2 0:=hf (by simp[Jmp]);rw[hq];exact (g_cs17 C ht hp).up hup
  |j+18,hp,hx,hj,hf,Ta,Tb=>cases hx
 |cx j=>
  rw[hp]at hx hj hf Ta Tb
  match j,hp,hx,hj,hf,Ta,Tb with
  |0,hp,hx,hj,hf,Ta,Tb=>
   cases hx
  |1,hp,hx,hj,hf,Ta,Tb=>
   cases hx
  |2,hp,hx,hj,hf,Ta,Tb=>
   cases hx
  |3,hp,hx,hj,hf,Ta,Tb=>
   cases hx
  |4,hp,hx,hj,hf,Ta,Tb=>
   cases hx
  |5,hp,hx,hj,hf,Ta,Tb=>
   cases hx
  |6,hp,hx,hj,hf,Ta,Tb=>
   cases hx
  |7,hp,hx,hj,hf,Ta,Tb=>
   cases hx
  |8,hp,hx,hj,hf,Ta,Tb=>
   cases hx;have hq:q=.cx 9:=hf (by simp[Jmp]);rw[hq];exact (g_cx8 C ht hp).up hup
  |9,hp,hx,hj,hf,Ta,Tb=>
   cases hx;have hq:q=.cx 10:=hf (by simp[Jmp]);rw[hq];exact (g_cx9 C ht hp rfl).up hup
  |10,hp,hx,hj,hf,Ta,Tb=>
   cases hx
   by_cases h0:s.reg t 0=0
   ·have hq:q=.cx 14:=hj (by simp[Jmp];exact h0);rw[hq];rw[show s.ex t ⟨14,0,0,0,to⟩ tg=s.setP t tg from if_pos h0];exact ((g_cx10j C ht hp h0).up hup).pc t tg
   ·have hq:q=.cx 11:=hf (by simp[Jmp];exact h0);rw[hq];rw[show s.ex t ⟨14,0,0,0,to⟩ tg=s from if_neg h0];exact (g_cx10f C ht hp h0).up hup
  |11,hp,hx,hj,hf,Ta,Tb=>
   cases hx;have hq:q=.cx 12:=hf (by simp[Jmp]);rw[hq];exact (g_cx11 C ht hp (v:=s.vw t (s.reg t 7) 0) (by rw[r7])).up hup
  |12,hp,hx,hj,hf,Ta,Tb=>
   cases hx
   by_cases h0:s.reg t 0=s.reg t 1
   ·have hq:q=.cx 14:=hj (by simp[Jmp];exact h0);rw[hq];rw[show s.ex t ⟨15,0,1,0,to⟩ tg=s.setP t tg from if_pos h0];exact ((g_cx12j C ht hp h0).up hup).pc t tg
   ·have hq:q=.cx 13:=hf (by simp[Jmp];exact h0);rw[hq];rw[show s.ex t ⟨15,0,1,0,to⟩ tg=s from if_neg h0];exact (g_cx12f C ht hp h0).up hup
  |13,hp,hx,hj,hf,Ta,Tb=>
   cases hx;have hq:q=.cx 8:=hj (by simp[Jmp]);rw[hq];exact ((g_cx13 C ht hp).up hup).pc t tg
  |14,hp,hx,hj,hf,Ta,Tb=>
   cases hx;have hq:q=.cx 15:=hf (by simp[Jmp]);rw[hq];exact (g_cx14 C ht hp).up hup
  |15,hp,hx,hj,hf,Ta,Tb=>
   cases hx;have hq:q=.cs 16:=hf (by simp[Jmp]);rw[hq];exact (g_cx15 C ht hp rfl).up hup
  |j+16,hp,hx,hj,hf,Ta,Tb=>cases hx
end Qg
end
section
namespace Qg
open Qs
variable {X:Cx}{s s':A}{p:Nat→Pos}{old old':Nat→Nat→Prop}{L L':List Nat}{B:Int}{t u:Nat}
theorem Core.client(C:Core X s p old L B)(ht:t<X.n){c d:Nat}(hp:p t=.cl c d)(q:Pos){d':Nat}(hq:startD X.f q=some d')(hd:d'<100)(hdd:X.f≠3→d'=d)
  (e1:∀u,u≠t→s'.reg u=s.reg u) (e2:∀u,u≠t→s'.buf u=s.buf u) (e3:∀x w,X.gr x→s'.val x w=s.val x w) (r6:s'.reg t 6=s.reg t 6) (r7:s'.reg t 7=s.reg t 7)
  (l:List En) (hb:s'.buf t=s.buf t++l) (hl:∀e∈l,¬X.gr e.a) (ho:∀u r,u<X.n→r<X.n→u≠t→old' u r→old u r)
  (ho2:∀u r,u<X.n→r<X.n→old' u r→∃c d,upd p t q r=.cl c d∧0<d):Core X s' (upd p t q) old' L B:=by
 have T:=C.th t ht;have hnb:=T.nb;have hok:=T.ok;have hil:=T.il;have hsec:=T.sec;have hvw0:=T.vw;have hbuf:=T.buf;rw[hp]at hnb hok hil hsec hvw0 hbuf;have hH:¬Has (s.reg t) (s.buf t) (.cl c d):=fun h=>h
 have hmem:∀e∈s'.buf t,X.gr e.a→e∈s.buf t:=fun e he hg=>by
  rw[hb]at he
  rcases List.mem_append.1 he with h|h
  ·exact h
  ·exact absurd hg (hl e h)
 have hvw:s'.vw t (X.own t) 0=s.vw t (X.own t) 0:=by
  unfold A.vw;rw[hb,e3 _ _ (gr_own ht)];unfold lk1;rw[List.foldl_append];exact lk1_none fun e he ha=>absurd (ha ▸ gr_own ht) (hl e he)
 have hpt:∀ φ,X.Prot s t φ→X.Prot s' t φ:=fun φ h=>⟨by rw[e3 _ _ (gr_own ht)];exact h.1,fun e he ha=>h.2 e (hmem e he (ha ▸ gr_own ht)) ha⟩
 have hprot:∀r φ,r<X.n→X.Prot s r φ→X.Prot s' r φ:=fun r φ hr h=>by
  by_cases e:r=t
  ·subst e;exact hpt φ h
  ·exact Prot.same (e2 r e) (e3 _ _ (gr_own hr)) h
 have Bq:=beg_of (X:=X) hq hd (s'.reg t) (s'.buf t) s'.val (X.Prot s') (old' t) L t (s'.vw t (X.own t) 0) (s'.val X.hub 0);have hhub:∀w,s'.val X.hub w=s.val X.hub w:=fun w=>e3 _ _ gr_hub
 have hH':∀u,u<X.n→(Has (s'.reg u) (s'.buf u) (upd p t q u)↔Has (s.reg u) (s.buf u) (p u)):=fun u hu=>by
  by_cases e:u=t
  ·subst e;rw[upd_same,hp];exact ⟨fun h=>absurd h Bq.h,fun h=>absurd h hH⟩
  ·rw[upd_ne _ _ e,e1 u e,e2 u e]
 refine ⟨fun u hu=>?_,?_,by rw[hhub];exact C.h0,by rw[hhub];exact C.h3,fun f u hu e he ha=>?_,?_,C.all,fun f u hu hj=>?_,ho2⟩
 ·by_cases e:u=t
  ·subst e;rw[upd_same];refine ⟨by rw[r6];exact T.r6,by rw[r7];exact T.r7,fun _ e he hg=>hbuf hH e (hmem e he hg) hg,fun f=>?_,fun f=>hpt _ (T.rng f),fun f g h=>?_,fun f h=>hil f ?_,fun f h1 h2 e he hg=>hnb f (by simp[wait3]) hH e (hmem e he hg) hg,fun f h=>?_,Bq.a,fun _=>Bq.c,Bq.b⟩
   ·rw[hvw,hvw0 f,Bq.n f,hdd f];rfl
   ·have:=Bq.s f h
    rcases hsec f g (by show 0<d;have:=hdd f;omega)with h|h
    ·exact .inl (hpt _ h)
    ·exact .inr (hpt _ h)
   ·have:=Bq.l f h;have:=hdd (by omega);show 0<d;omega
   ·rw[e3 _ _ (gr_own hu),hhub];exact hok f trivial
  ·rw[upd_ne _ _ e];exact (C.th u hu).mono (e1 u e) (e2 u e) (fun w=>e3 _ _ (gr_own hu)) (fun _=>by rw[hhub];exact Int.le_refl _) (fun _=>⟨hhub 0,hhub 2,fun r hr=>e3 _ _ (gr_own hr)⟩) (fun r hr h=>ho u r hu hr e h) (fun r φ hr _ h=>hprot r φ hr h) Iff.rfl
 ·rw[hhub]
  rcases C.lock with ⟨h1,h2⟩|⟨h,h1,h2,h3,h4⟩
  ·exact .inl ⟨h1,fun u hu g=>h2 u hu ((hH' u hu).1 g)⟩
  ·exact .inr ⟨h,h1,(hH' h h1).2 h2,h3,fun u hu hne g=>h4 u hu hne ((hH' u hu).1 g)⟩
 ·by_cases e5:u=t
  ·subst e5;exact C.hb3 f u hu e (hmem e he (ha ▸ gr_hub)) ha
  ·rw[e2 u e5]at he;exact C.hb3 f u hu e he ha
 ·rw[hhub];exact Ch.mono (fun r hr=>e3 _ _ (gr_own hr)) C.ch
 ·rw[e3 _ _ (gr_own hu)];refine C.j f u hu ?_
  by_cases e:u=t
  ·subst e;rw[hp];simp[joining]
  ·rw[upd_ne _ _ e]at hj;exact hj
end Qg
end
section
namespace Qg
open Qs
def kd:Pos→Nat
 |.cl 1 _=>1
 |.cl 2 _=>1
 |.cl 11 _=>2
 |.cl 12 _=>2
 |.cl 13 _=>2
 |.cl 14 _=>3
 |.wb=>3
 |.wn _ _=>3
 |.wx _ _=>3
 |.we=>3
 |.ca _=>3
 |.cs _=>3
 |.cx _=>3
 |.cr _=>3
 |.tk k _=>if k=0 then 0 else 3
 |.gv k _=>if k=0 then 0 else 3
 |_=>0
variable (X:Cx)(ptr:Int)
variable {X:Cx}{ptr:Int}{s s':A}{p p':Nat→Pos}{L L':List Nat}{B:Int}{t u:Nat}
end Qg
end
section
namespace Qg
open Qs
variable {X:Cx}{ptr:Int}{s s':A}{p p':Nat→Pos}{L L':List Nat}{B:Int}{t u:Nat}
theorem ins_what{f:Nat}{P:Pos}{op:Nat}{a b c:Int}(h:insOf f P=some (op,a,b,c)) :
  (op=7∧(a=6∨a=7))∨(op=9∧a=7∧b=0)∨(op=12∨op=13∨op=14∨op=15∨op=16∨op=17)∨((op=0∨op=2∨op=3∨op=4∨op=5∨op=6)∧(a=0∨a=1∨a=2)):=by
 cases P with
 |fin=>cases h
 |cl c d=>cases h
 |dead=>cases h
 |jk d=>cases h;simp
 |wb=>have h2:some ((barOp f:Nat),(0:Int),(0:Int),(0:Int))=some (op,a,b,c):=h;cases h2;unfold barOp;split <;> simp
 |we=>have h2:some ((barOp f:Nat),(0:Int),(0:Int),(0:Int))=some (op,a,b,c):=h;cases h2;unfold barOp;split <;> simp
 |ent d j=>
  match j,h with
  |0,h=>cases h;simp
  |1,h=>cases h;simp
  |2,h=>cases h;simp
  |3,h=>cases h;simp
  |4,h=>cases h;simp
  |5,h=>cases h;simp
  |6,h=>cases h;simp
  |7,h=>cases h;simp
  |8,h=>cases h;simp
  |9,h=>cases h;simp
  |10,h=>cases h;simp
  |11,h=>cases h;simp
  |12,h=>cases h;simp
  |j+13,h=>cases h
 |lea d j=>
  match j,h with
  |0,h=>cases h;simp
  |1,h=>cases h;simp
  |2,h=>cases h;simp
  |3,h=>cases h;simp
  |4,h=>cases h;simp
  |j+5,h=>cases h
 |jh d j=>
  match j,h with
  |0,h=>cases h;simp
  |1,h=>cases h;simp
  |2,h=>cases h;simp
  |3,h=>cases h;simp
  |j+4,h=>cases h
 |jc j=>
  match j,h with
  |0,h=>cases h;simp
  |1,h=>cases h;simp
  |2,h=>cases h;simp
  |3,h=>cases h;simp
  |4,h=>cases h;simp
  |j+5,h=>cases h
 |tk k j=>
  match j,h with
  |0,h=>cases h;simp
  |1,h=>cases h;simp
  |2,h=>cases h;simp
  |3,h=>cases h;simp
  |4,h=>cases h;simp
  |5,h=>cases h;simp
  |6,h=>cases h;simp
  |j+7,h=>cases h
 |gv k j=>
  match j,h with
  |0,h=>cases h;simp
  |1,h=>cases h;simp
  |2,h=>cases h;simp
  |j+3,h=>cases h
 |wn g j=>
  match j,h with
  |0,h=>cases h;simp
  |1,h=>cases h;simp
  |2,h=>cases h;simp
  |3,h=>cases h;simp
  |4,h=>have h2:some ((barOp f:Nat),(0:Int),(0:Int),(0:Int))=some (op,a,b,c):=h;cases h2;unfold barOp;split <;> simp
  |5,h=>cases h;simp
  |6,h=>cases h;simp
  |7,h=>cases h;simp
  |8,h=>cases h
  |9,h=>cases h
  |10,h=>cases h
  |11,h=>cases h
  |12,h=>cases h
  |13,h=>cases h
  |14,h=>cases h
  |15,h=>cases h
  |16,h=>cases h
  |17,h=>cases h
  |18,h=>cases h
  |19,h=>cases h
  |20,h=>cases h
  |21,h=>cases h;simp
  |22,h=>cases h;simp
  |j+23,h=>cases h
 |wx g j=>
  match j,h with
  |0,h=>cases h
  |1,h=>cases h
  |2,h=>cases h
  |3,h=>cases h
  |4,h=>cases h
  |5,h=>cases h
  |6,h=>cases h
  |7,h=>cases h
  |8,h=>cases h;simp
  |9,h=>cases h;simp
  |10,h=>cases h;simp
  |11,h=>cases h;simp
  |12,h=>cases h;simp
  |13,h=>cases h;simp
  |14,h=>cases h;simp
  |15,h=>cases h;simp
  |16,h=>cases h;simp
  |17,h=>cases h;simp
  |18,h=>cases h;simp
  |19,h=>cases h;simp
  |20,h=>cases h;simp
  |j+21,h=>cases h
 |rs j=>
  match j,h with
  |0,h=>cases h;simp
  |1,h=>cases h;simp
  |2,h=>cases h;simp
  |j+3,h=>cases h
 |gn j=>
  match j,h with
  |0,h=>cases h;simp
  |1,h=>cases h;simp
  |2,h=>cases h;simp
  |j+3,h=>cases h
 |ca j=>
  match j,h with
  |0,h=>cases h;simp
  |1,h=>cases h;simp
  |2,h=>cases h;simp
  |j+3,h=>cases h
 |cr j=>
  match j,h with
  |0,h=>cases h;simp
  |1,h=>cases h;simp
  |2,h=>cases h;simp
  |j+3,h=>cases h
 |cs j=>
  match j,h with
  |0,h=>cases h;simp
  |1,h=>cases h;simp
  |2,h=>cases h;simp
  |3,h=>cases h;simp
  |4,h=>cases h;simp
  |5,h=>cases h;simp
  |6,h=>cases h;simp
  |7,h=>cases h;simp
  |8,h=>cases h
  |9,h=>cases h
  |10,h=>cases h
  |11,h=>cases h
  |12,h=>cases h
  |13,h=>cases h
  |14,h=>cases h
  |15,h=>cases h
  |16,h=>cases h;simp
  |17,h=>cases h;simp
  |j+18,h=>cases h
 |cx j=>
  match j,h with
  |0,h=>cases h
  |1,h=>cases h
  |2,h=>cases h
  |3,h=>cases h
  |4,h=>cases h
  |5,h=>cases h
  |6,h=>cases h
  |7,h=>cases h
  |8,h=>cases h;simp
  |9,h=>cases h;simp
  |10,h=>cases h;simp
  |11,h=>cases h;simp
  |12,h=>cases h;simp
  |13,h=>cases h;simp
  |14,h=>cases h;simp
  |15,h=>cases h;simp
  |j+16,h=>cases h
theorem ins_reads{f:Nat}{P:Pos}{a b c:Int}(h:insOf f P=some (6,a,b,c)):b=6∨b=7∨(b=2∧((∃g j,P=.wx g j)∨∃j,P=.cx j)):=by
 cases P with
 |fin=>cases h
 |cl c d=>cases h
 |dead=>cases h
 |jk d=>cases h
 |wb=>have h2:some ((barOp f:Nat),(0:Int),(0:Int),(0:Int))=some (6,a,b,c):=h;unfold barOp at h2;split at h2 <;> cases h2
 |we=>have h2:some ((barOp f:Nat),(0:Int),(0:Int),(0:Int))=some (6,a,b,c):=h;unfold barOp at h2;split at h2 <;> cases h2
 |ent d j=>
  match j,h with
  |0,h=>cases h;simp
  |1,h=>cases h
  |2,h=>cases h
  |3,h=>cases h
  |4,h=>cases h
  |5,h=>cases h
  |6,h=>cases h
  |7,h=>cases h
  |8,h=>cases h
  |9,h=>cases h;simp
  |10,h=>cases h
  |11,h=>cases h
  |12,h=>cases h
  |j+13,h=>cases h
 |lea d j=>
  match j,h with
  |0,h=>cases h
  |1,h=>cases h;simp
  |2,h=>cases h
  |3,h=>cases h
  |4,h=>cases h
  |j+5,h=>cases h
 |jh d j=>
  match j,h with
  |0,h=>cases h;simp
  |1,h=>cases h
  |2,h=>cases h
  |3,h=>cases h
  |j+4,h=>cases h
 |jc j=>
  match j,h with
  |0,h=>cases h;simp
  |1,h=>cases h
  |2,h=>cases h
  |3,h=>cases h
  |4,h=>cases h
  |j+5,h=>cases h
 |tk k j=>
  match j,h with
  |0,h=>cases h
  |1,h=>cases h
  |2,h=>cases h
  |3,h=>cases h
  |4,h=>cases h
  |5,h=>cases h
  |6,h=>cases h
  |j+7,h=>cases h
 |gv k j=>
  match j,h with
  |0,h=>cases h
  |1,h=>cases h
  |2,h=>cases h
  |j+3,h=>cases h
 |wn g j=>
  match j,h with
  |0,h=>cases h;simp
  |1,h=>cases h
  |2,h=>cases h
  |3,h=>cases h
  |4,h=>have h2:some ((barOp f:Nat),(0:Int),(0:Int),(0:Int))=some (6,a,b,c):=h;unfold barOp at h2;split at h2 <;> cases h2
  |5,h=>cases h;simp
  |6,h=>cases h
  |7,h=>cases h
  |8,h=>cases h
  |9,h=>cases h
  |10,h=>cases h
  |11,h=>cases h
  |12,h=>cases h
  |13,h=>cases h
  |14,h=>cases h
  |15,h=>cases h
  |16,h=>cases h
  |17,h=>cases h
  |18,h=>cases h
  |19,h=>cases h
  |20,h=>cases h
  |21,h=>cases h
  |22,h=>cases h
  |j+23,h=>cases h
 |wx g j=>
  match j,h with
  |0,h=>cases h
  |1,h=>cases h
  |2,h=>cases h
  |3,h=>cases h
  |4,h=>cases h
  |5,h=>cases h
  |6,h=>cases h
  |7,h=>cases h
  |8,h=>cases h
  |9,h=>cases h;simp
  |10,h=>cases h
  |11,h=>cases h
  |12,h=>cases h
  |13,h=>cases h;simp
  |14,h=>cases h
  |15,h=>cases h
  |16,h=>cases h
  |17,h=>cases h
  |18,h=>cases h
  |19,h=>cases h
  |20,h=>cases h;simp
  |j+21,h=>cases h
 |rs j=>
  match j,h with
  |0,h=>cases h;simp
  |1,h=>cases h
  |2,h=>cases h
  |j+3,h=>cases h
 |gn j=>
  match j,h with
  |0,h=>cases h
  |1,h=>cases h
  |2,h=>cases h
  |j+3,h=>cases h
 |ca j=>
  match j,h with
  |0,h=>cases h
  |1,h=>cases h
  |2,h=>cases h
  |j+3,h=>cases h
 |cr j=>
  match j,h with
  |0,h=>cases h;simp
  |1,h=>cases h
  |2,h=>cases h
  |j+3,h=>cases h
 |cs j=>
  match j,h with
  |0,h=>cases h;simp
  |1,h=>cases h
  |2,h=>cases h
  |3,h=>cases h
  |4,h=>cases h
  |5,h=>cases h;simp
  |6,h=>cases h
  |7,h=>cases h
  |8,h=>cases h
  |9,h=>cases h
  |10,h=>cases h
  |11,h=>cases h
  |12,h=>cases h
  |13,h=>cases h
  |14,h=>cases h
  |15,h=>cases h
  |16,h=>cases h
  |17,h=>cases h
  |j+18,h=>cases h
 |cx j=>
  match j,h with
  |0,h=>cases h
  |1,h=>cases h
  |2,h=>cases h
  |3,h=>cases h
  |4,h=>cases h
  |5,h=>cases h
  |6,h=>cases h
  |7,h=>cases h
  |8,h=>cases h
  |9,h=>cases h;simp
  |10,h=>cases h
  |11,h=>cases h;simp
  |12,h=>cases h
  |13,h=>cases h
  |14,h=>cases h
  |15,h=>cases h;simp
  |j+16,h=>cases h
theorem kd_tgt(P:Pos)(h:∀c d,P≠.cl c d):kd (tgtOf P)=kd P∧∀c d,tgtOf P≠.cl c d:=by
 unfold tgtOf
 split
 all_goals first
  |exact ⟨rfl,h⟩
  |(split <;> exact ⟨rfl,fun _ _ e=>by cases e⟩)
  |exact ⟨rfl,fun _ _ e=>by cases e⟩
end Qg
end
section
namespace Qk
open Qs Qg
inductive Ro where
 |no
 |sp
 |pub
 |mine (t:Nat)
deriving DecidableEq
structure Ck where
 X:Cx
 top:Int
 lc:Nat→Int
 lw:Nat→Nat
 nx:Nat
 V:Int→Prop
 tg:¬X.gr top
 lg:∀t,¬X.gr (lc t)
 lt:∀t,lc t≠top
 li:∀t u,t<X.n→u<X.n→lc t=lc u→lw t=lw u→t=u
 n0:nx≠0
 V0:∀v,V v→v≠0
structure Fl where
 r:Bool
 g:Nat
deriving DecidableEq
def ChL(vw:Int→Nat→Int)(nx:Nat):Int→List Int→Prop
 |h,[]=>h=0
 |h,x :: l=>h=x∧ChL vw nx (vw x nx) l
def Own(R:Int→Ro)(t:Nat)(l:List Int)(x:Int):Prop:=x≠0∧R x=.mine t∧¬x∈l
section
variable (K:Ck)(rg:Nat→Int)(vw:Int→Nat→Int)(R:Int→Ro)(t:Nat)(l:List Int)(f:Fl)
end
variable {K:Ck}{s s':A}{p:Nat→Pos}{fl:Nat→Fl}{R R':Int→Ro}{t u:Nat}{P q:Pos}{f:Fl}
theorem ChL.keep{vw vw':Int→Nat→Int}{nx:Nat}:∀ {l:List Int} {h:Int},ChL vw nx h l→(∀x∈l,vw' x nx=vw x nx)→ChL vw' nx h l
 |[],_,H,_=>H
 |x :: l,h,H,hk=>⟨H.1,by rw[hk x (by simp)];exact H.2.keep fun y hy=>hk y (by simp[hy])⟩
theorem Own.mono{l:List Int}{x:Int}(h:Own R t l x)(hR:R' x=.mine t↔R x=.mine t):Own R' t l x:=⟨h.1,hR.2 h.2.1,h.2.2⟩
theorem vw_same(hb:s'.buf u=s.buf u){x:Int}{w:Nat}(h:s'.val x w=s.val x w):s'.vw u x w=s.vw u x w:=by
 unfold A.vw;rw[hb,h]
end Qk
end
section
namespace Qp
open Qs Qg Qk
open Qu (Gh sumN)
structure Cp where
 X:Cx
 top:Int
 lc:Nat→Int
 lw:Nat→Nat
 nx:Nat
 Z:Nat
 tg:¬X.gr top
 lg:∀t,¬X.gr (lc t)
 lt:∀t,lc t≠top
 li:∀t u,t<X.n→u<X.n→lc t=lc u→lw t=lw u→t=u
 n0:2≤nx
structure Fp where
 r:Bool
 g:Nat
 cur:Int
 rest:List Int
deriving DecidableEq
def Cp.spec(K:Cp)(x:Int):Prop:=K.X.gr x∨x=K.top∨∃t,t<K.X.n∧x=K.lc t
def hold:Pos→Prop
 |.cl 82 _=>True
 |.cl 83 _=>True
 |.cl 84 _=>True
 |.cl 85 _=>True
 |_=>False
def hold2:Pos→Prop
 |.cl 84 _=>True
 |.cl 85 _=>True
 |_=>False
theorem hold2_hold{P:Pos}(h:hold2 P):hold P:=by
 unfold hold2 at h
 split at h
 ·trivial
 ·trivial
 ·exact h.elim
theorem hold_cl{P:Pos}(h:hold P):∃c d,P=.cl c d∧(c=82∨c=83∨c=84∨c=85):=by
 unfold hold at h
 split at h
 ·exact ⟨_,_,rfl,by omega⟩
 ·exact ⟨_,_,rfl,by omega⟩
 ·exact ⟨_,_,rfl,by omega⟩
 ·exact ⟨_,_,rfl,by omega⟩
 ·exact h.elim
def nbOf(f:Fp):Pos→Nat
 |.cl 60 _=>f.rest.length+1
 |_=>f.rest.length
def remOf(f:Fp)(rg:Nat→Int):Pos→List Int
 |.cl 60 _=>f.cur :: f.rest
 |.cl 61 _=>if rg 3=0 then f.rest else f.cur :: f.rest
 |.cl 62 _=>f.cur :: f.rest
 |.cl 63 _=>f.cur :: f.rest
 |.cl 64 _=>f.cur :: f.rest
 |.cl 65 _=>f.cur :: f.rest
 |.cl 66 _=>f.cur :: f.rest
 |.cl 67 _=>f.cur :: f.rest
 |.cl 68 _=>f.cur :: f.rest
 |.cl 69 _=>f.cur :: f.rest
 |.cl 70 _=>if rg 0=rg 1 then f.rest else f.cur :: f.rest
 |.cl 71 _=>f.cur :: f.rest
 |_=>f.rest
def pendOf(rg:Nat→Int)(vw:Int→Nat→Int):Pos→List Int
 |.cl 86 _=>if rg 0=rg 1 then [vw (rg 0) 0]else []
 |.cl 88 _=>if rg 0=0 then []else [vw (rg 0) 0]
 |.cl 89 _=>if rg 0=0 then []else [vw (rg 0) 0]
 |.cl 90 _=>if rg 3=0 then []else [vw (rg 3) 0]
 |.cl 91 _=>[vw (rg 3) 0]
 |.cl 92 _=>[rg 0]
 |_=>[]
section
variable (K:Cp)(rg:Nat→Int)(vw:Int→Nat→Int)(R:Int→Ro)(t:Nat)(l:List Int)(f:Fp)
def Gen:Prop:=f.r=true→rg 3=0∨Own R t l (rg 3)
def NewV:Prop:=Own R t l (rg 3)∧1≤f.g∧vw (rg 3) 0=f.cur
def Cp.Hnd:Pos→Prop
 |.cl 61 _=>(rg 3=0∨Own R t l (rg 3))∧1≤f.g
 |.cl 62 _=>Own R t l (rg 3)∧1≤f.g
 |.cl 63 _=>Own R t l (rg 3)∧1≤f.g∧rg 0=f.cur
 |.cl 64 _=>NewV rg vw R t l f
 |.cl 65 _=>NewV rg vw R t l f
 |.cl 66 _=>NewV rg vw R t l f
 |.cl 67 _=>NewV rg vw R t l f∧vw (rg 3) 1=rg 0
 |.cl 68 _=>NewV rg vw R t l f∧vw (rg 3) 1=rg 0∧rg 1=rg 0
 |.cl 69 _=>NewV rg vw R t l f∧vw (rg 3) 1=rg 0∧rg 1=rg 0∧rg 2=rg 3
 |.cl 70 _=>rg 0≠rg 1→NewV rg vw R t l f
 |.cl 71 _=>NewV rg vw R t l f
 |.cl 83 _=>rg 0≠0
 |.cl 84 _=>rg 0≠0
 |.cl 85 _=>rg 0≠0∧rg 1=rg 0
 |.cl 86 _=>rg 0=rg 1→Own R t l (rg 0)
 |.cl 88 _=>rg 0=0∨Own R t l (rg 0)
 |.cl 89 _=>rg 0=0∨Own R t l (rg 0)
 |.cl 90 _=>rg 3=0∨Own R t l (rg 3)
 |.cl 91 _=>Own R t l (rg 3)
 |.cl 92 _=>Own R t l (rg 3)
 |.cl 93 _=>rg 3=0∨Own R t l (rg 3)
 |.cl 30 _=>rg 3=0∨Own R t l (rg 3)
 |.cl 31 _=>Own R t l (rg 3)
 |.cl 32 _=>Own R t l (rg 3)∧rg 2=K.lc t
 |.cl 33 _=>Own R t l (rg 3)∧rg 2=K.lc t∧rg 0=vw (K.lc t) (K.lw t)
 |.cl 34 _=>Own R t l (rg 3)∧rg 2=K.lc t∧vw (rg 3) K.nx=vw (K.lc t) (K.lw t)
 |.cl 35 _=>True
 |.cl 40 _=>2≤f.g
 |.cl 41 _=>2≤f.g∧rg 2=K.lc t
 |.cl 42 _=>2≤f.g∧rg 2=K.lc t
 |.cl 43 _=>2≤f.g∧rg 2=K.lc t∧rg 0=vw (K.lc t) (K.lw t)
 |.cl 44 _=>2≤f.g∧rg 2=K.lc t∧rg 0=vw (K.lc t) (K.lw t)∧rg 0≠0
 |.cl 45 _=>2≤f.g∧rg 2=K.lc t∧rg 0=vw (K.lc t) (K.lw t)∧rg 0≠0∧rg 1=vw (rg 0) K.nx
 |.cl 46 _=>2≤f.g∧rg 2=K.lc t∧Own R t l (rg 0)
 |.cl 47 _=>2≤f.g∧rg 2=K.lc t
 |_=>Gen rg R t l f
end
structure Ths(K:Cp)(s:A)(R:Int→Ro)(t:Nat)(P:Pos)(f:Fp):Prop where
 r5:s.reg t 5=K.top
 bufs:∀e∈s.buf t,K.X.gr e.a∨(e.a=K.lc t∧e.w=K.lw t)∨R e.a=.mine t
 ls:∃l,ChL (s.vw t) K.nx (s.vw t (K.lc t) (K.lw t)) l∧(∀x∈l,x≠0∧R x=.mine t)∧l.Nodup∧K.Hnd (s.reg t) (s.vw t) R t l f P
def Cells(K:Cp)(s:A)(nb:Nat→Nat):Prop:=∃Ls:List Int,Ls.Nodup∧(∀x,s.here x=true↔x∈Ls)∧Ls.length+sumN nb K.X.n≤K.Z
structure CG(K:Cp)(s:A)(p:Nat→Pos)(fl:Nat→Fp)(R:Int→Ro)(ch:List Int)(G:Gh):Prop where
 z:R 0=.no
 hr:∀x,R x≠.no→s.here x=true
 sp:∀x,K.spec x→R x=.sp
 t12:∀t,t<K.X.n→s.val K.top (1+t/4)=K.lc t
 cl:ChL s.val 1 (s.val K.top 0) ch
 cn:ch.Nodup
 cp:∀x,R x=.pub↔x∈ch
 th:∀t,t<K.X.n→Ths K s R t (p t) (fl t)
 hd:∀t,t<K.X.n→hold (p t)→∃c d,p t=.cl c d∧0<d
 ho:∀t,t<K.X.n→hold (p t)→s.reg t 0≠0→R (s.reg t 0)=.pub∨∃w,R (s.reg t 0)=.mine w
 h2:∀t,t<K.X.n→hold2 (p t)→s.reg t 2=s.val (s.reg t 0) 1
 g1:∀t,t<K.X.n→1≤(fl t).g→R (s.reg t 3)=.mine t→∀r,r<K.X.n→hold (p r)→s.reg r 0≠s.reg t 3
 g2:∀t,t<K.X.n→2≤(fl t).g→∀r,r<K.X.n→hold (p r)→R (s.reg r 0)≠.mine t
 bw:∀t,t<K.X.n→∀e∈s.buf t,e.w=1→∀r,r<K.X.n→hold (p r)→s.reg r 0≠e.a
 cells:Cells K s fun t=>nbOf (fl t) (p t)
 rem:∀t,t<K.X.n→G.rem t=remOf (fl t) (s.reg t) (p t)
 pend:∀t,t<K.X.n→G.pend t=pendOf (s.reg t) (s.vw t) (p t)
 chv:G.chv=ch.map fun x=>s.val x 0
variable {K:Cp}{s s':A}{p:Nat→Pos}{fl:Nat→Fp}{R R':Int→Ro}{t u:Nat}{P q:Pos}{f:Fp}{ch ch':List Int}{G G':Gh}
theorem Gen.mono{rg:Nat→Int}{l:List Int}(h:Gen rg R t l f)(hR:∀x,R' x=.mine t↔R x=.mine t):Gen rg R' t l f:=fun g=>(h g).imp id fun g=>g.mono (hR _)
theorem Hnd.mono{rg:Nat→Int}{vw vw':Int→Nat→Int}{l:List Int}(h:K.Hnd rg vw R t l f P)(hR:∀x,R' x=.mine t↔R x=.mine t)(hl:vw' (K.lc t) (K.lw t)=vw (K.lc t) (K.lw t))(hv:∀x w,R x=.mine t→vw' x w=vw x w)
  (hch:ChL vw K.nx (vw (K.lc t) (K.lw t)) l) (hm:∀x∈l,R x=.mine t):K.Hnd rg vw' R' t l f P:=by
 have hO:∀x,Own R t l x→Own R' t l x:=fun x g=>g.mono (hR x);have hN:NewV rg vw R t l f→NewV rg vw' R' t l f:=fun g=>⟨hO _ g.1,g.2.1,by rw[hv _ _ g.1.2.1];exact g.2.2⟩;have hN1:NewV rg vw R t l f→vw' (rg 3) 1=vw (rg 3) 1:=fun g=>hv _ _ g.1.2.1;unfold Cp.Hnd at h ⊢
 split at h
 ·exact ⟨h.1.imp id (hO _),h.2⟩
 ·exact ⟨hO _ h.1,h.2⟩
 ·exact ⟨hO _ h.1,h.2⟩
 ·exact hN h
 ·exact hN h
 ·exact hN h
 ·exact ⟨hN h.1,by rw[hN1 h.1];exact h.2⟩
 ·exact ⟨hN h.1,by rw[hN1 h.1];exact h.2⟩
 ·exact ⟨hN h.1,by rw[hN1 h.1];exact h.2⟩
 ·exact fun e=>hN (h e)
 ·exact hN h
 ·exact h
 ·exact h
 ·exact h
 ·exact fun e=>hO _ (h e)
 ·exact h.imp id (hO _)
 ·exact h.imp id (hO _)
 ·exact h.imp id (hO _)
 ·exact hO _ h
 ·exact hO _ h
 ·exact h.imp id (hO _)
 ·exact h.imp id (hO _)
 ·exact hO _ h
 ·exact ⟨hO _ h.1,h.2⟩
 ·exact ⟨hO _ h.1,h.2.1,by rw[hl];exact h.2.2⟩
 ·exact ⟨hO _ h.1,h.2.1,by rw[hl,hv _ _ h.1.2.1];exact h.2.2⟩
 ·trivial
 ·exact h
 ·exact h
 ·exact h
 ·exact ⟨h.1,h.2.1,by rw[hl];exact h.2.2⟩
 ·exact ⟨h.1,h.2.1,by rw[hl];exact h.2.2.1,h.2.2.2⟩
 ·obtain ⟨a2,a3,a4,a5,a6⟩:=h
  have hx:R (rg 0)=.mine t:=by
   cases l with
   |nil=>exact absurd (a4.trans hch) a5
   |cons y l=>have:rg 0=y:=a4.trans hch.1;rw[this];exact hm y (by simp)
  exact ⟨a2,a3,by rw[hl];exact a4,a5,by rw[hv _ _ hx];exact a6⟩
 ·exact ⟨h.1,h.2.1,hO _ h.2.2⟩
 ·exact h
 ·exact h.mono hR
theorem pend_mono{rg:Nat→Int}{vw vw':Int→Nat→Int}{l:List Int}(h:K.Hnd rg vw R t l f P)(hv:∀x w,R x=.mine t→vw' x w=vw x w):pendOf rg vw' P=pendOf rg vw P:=by
 unfold Cp.Hnd at h;unfold pendOf
 split
 ·split
  ·rename_i e;rw[hv _ _ (h e).2.1]
  ·rfl
 ·split
  ·rfl
  ·rename_i e;rw[hv _ _ (h.resolve_left e).2.1]
 ·split
  ·rfl
  ·rename_i e;rw[hv _ _ (h.resolve_left e).2.1]
 ·split
  ·rfl
  ·rename_i e;rw[hv _ _ (h.resolve_left e).2.1]
 ·rw[hv _ _ h.2.1]
 ·rfl
 ·rfl
theorem Ths.mono(h:Ths K s R u P f)(hr:s'.reg u=s.reg u)(hb:s'.buf u=s.buf u)(hR:∀x,R' x=.mine u↔R x=.mine u)(hl:s'.vw u (K.lc u) (K.lw u)=s.vw u (K.lc u) (K.lw u))(hv:∀x w,R x=.mine u→s'.vw u x w=s.vw u x w):Ths K s' R' u P f:=by
 obtain ⟨r5,bf,l,h1,h2,h3,h4⟩:=h;refine ⟨by rw[hr];exact r5,fun e he=>?_,l,?_,fun x hx=>⟨(h2 x hx).1,(hR x).2 (h2 x hx).2⟩,h3,?_⟩
 ·rw[hb]at he;exact (bf e he).imp id fun g=>g.imp id (hR _).2
 ·rw[hl];exact h1.keep fun x hx=>hv x _ (h2 x hx).2
 ·rw[hr];exact Hnd.mono h4 hR hl hv h1 fun x hx=>(h2 x hx).2
theorem Ths.pend(h:Ths K s R u P f)(hr:s'.reg u=s.reg u)(hv:∀x w,R x=.mine u→s'.vw u x w=s.vw u x w):pendOf (s'.reg u) (s'.vw u) P=pendOf (s.reg u) (s.vw u) P:=by
 obtain ⟨r5,bf,l,h1,h2,h3,h4⟩:=h;rw[hr];exact pend_mono h4 hv
def updP(fl:Nat→Fp)(t:Nat)(f:Fp):Nat→Fp:=fun u=>if u=t then f else fl u
theorem updP_same(fl:Nat→Fp)(t:Nat)(f:Fp):updP fl t f t=f:=if_pos rfl
theorem updP_ne(fl:Nat→Fp){t u:Nat}(f:Fp)(h:u≠t):updP fl t f u=fl u:=if_neg h
theorem sp_gr(C:CG K s p fl R ch G){x:Int}(h:K.X.gr x):R x=.sp:=C.sp x (.inl h)
theorem sp_top(C:CG K s p fl R ch G):R K.top=.sp:=C.sp _ (.inr (.inl rfl))
theorem sp_lc(C:CG K s p fl R ch G)(ht:t<K.X.n):R (K.lc t)=.sp:=C.sp _ (.inr (.inr ⟨t,ht,rfl⟩))
theorem buf_ro(C:CG K s p fl R ch G)(ht:t<K.X.n){e:En}(he:e∈s.buf t):R e.a=.sp∨R e.a=.mine t:=by
 rcases (C.th t ht).bufs e he with g|g|g
 ·exact .inl (sp_gr C g)
 ·exact .inl (by rw[g.1];exact sp_lc C ht)
 ·exact .inr g
theorem CG.dr(C:CG K s p fl R ch G)(ht:t<K.X.n):CG K (s.dr t) p fl R ch G:=by
 cases hb:s.buf t with
 |nil=>rw[show s.dr t=s from by unfold A.dr;rw[hb]];exact C
 |cons e r=>
  have hreg:(s.dr t).reg=s.reg:=A.dr_reg s t;have hhere:(s.dr t).here=s.here:=A.dr_here s t;have T:=C.th t ht
  have hem:e∈s.buf t:=by rw[hb];simp
  have he:=T.bufs e hem;have hro:=buf_ro C ht hem;have hval:=fun x w=>dr_val (s:=s) (t:=t) hb x w
  have htop:∀w,(s.dr t).val K.top w=s.val K.top w:=fun w=>by
   rw[hval,if_neg];rintro ⟨a,b⟩
   rcases he with g|g|g
   ·exact K.tg (a ▸ g)
   ·exact K.lt t (g.1.symm.trans a.symm)
   ·have:=sp_top C;rw[a,g]at this;cases this
  have hpb:∀x w,R x=.pub→(s.dr t).val x w=s.val x w:=fun x w hx=>by
   rw[hval,if_neg];rintro ⟨a,b⟩;subst a
   rcases hro with g|g <;> rw[g]at hx <;> cases hx
  have hvt:∀x w,(s.dr t).vw t x w=s.vw t x w:=fun x w=>dr_vw hb x w
  have hvu:∀u,u<K.X.n→u≠t→(s.dr t).buf u=s.buf u∧(s.dr t).vw u (K.lc u) (K.lw u)=s.vw u (K.lc u) (K.lw u)∧∀x w,R x=.mine u→(s.dr t).vw u x w=s.vw u x w:=fun u hu e1=>by
   have hbu:(s.dr t).buf u=s.buf u:=dr_u e1;refine ⟨hbu,vw_same hbu ?_,fun x w hx=>vw_same hbu ?_⟩
   ·rw[hval,if_neg];rintro ⟨a,b⟩
    rcases he with g|g|g
    ·exact K.lg u (a ▸ g)
    ·exact e1 (K.li u t hu ht (a.trans g.1) (b.trans g.2))
    ·have:=sp_lc C hu;rw[a,g]at this;cases this
   ·rw[hval,if_neg];rintro ⟨a,b⟩;subst a
    rcases hro with g|g
    ·rw[g]at hx;cases hx
    ·rw[g]at hx;cases hx;exact e1 rfl
  refine ⟨C.z,by rw[hhere];exact C.hr,C.sp,fun u hu=>by rw[htop];exact C.t12 u hu,?_,C.cn,C.cp,fun u hu=>?_,C.hd,by rw[hreg];exact C.ho,fun u hu hh=>?_,by rw[hreg];exact C.g1,by rw[hreg];exact C.g2,fun u hu e' he' hw r hr hh=>?_,?_,fun u hu=>by rw[hreg];exact C.rem u hu,fun u hu=>?_,?_⟩
  ·rw[htop];exact C.cl.keep fun x hx=>hpb x 1 ((C.cp x).2 hx)
  ·by_cases e1:u=t
   ·subst e1;obtain ⟨r5,bf,l,h1,h2,h3,h4⟩:=T;refine ⟨by rw[hreg];exact r5,fun e' he'=>bf e' (A.dr_mem he'),l,by rw[hvt];exact h1.keep fun x hx=>hvt x _,h2,h3,by rw[hreg];exact Hnd.mono h4 (fun _=>Iff.rfl) (hvt _ _) (fun x w _=>hvt x w) h1 fun x hx=>(h2 x hx).2⟩
   ·obtain ⟨k1,k2,k3⟩:=hvu u hu e1;exact (C.th u hu).mono (by rw[hreg]) k1 (fun _=>Iff.rfl) k2 k3
  ·rw[hreg,hval,if_neg]
   ·exact C.h2 u hu hh
   ·rintro ⟨a,b⟩;exact C.bw t ht e hem b.symm u hu (hold2_hold hh) a
  ·rw[hreg]
   by_cases e1:u=t
   ·subst e1;exact C.bw u hu e' (A.dr_mem he') hw r hr hh
   ·rw[(hvu u hu e1).1]at he';exact C.bw u hu e' he' hw r hr hh
  ·obtain ⟨Ls,k1,k2,k3⟩:=C.cells;exact ⟨Ls,k1,by rw[hhere];exact k2,k3⟩
  ·rw[C.pend u hu]
   by_cases e1:u=t
   ·subst e1;exact (T.pend (by rw[hreg]) fun x w _=>hvt x w).symm
   ·exact ((C.th u hu).pend (by rw[hreg]) (hvu u hu e1).2.2).symm
  ·rw[C.chv];refine List.map_congr_left fun x hx=>?_;rw[hpb x 0 ((C.cp x).2 hx)]
theorem CG.own(C:CG K s p fl R ch G)(ht:t<K.X.n)(q:Pos)(f':Fp)(e1:∀u,u≠t→s'.reg u=s.reg u)(e2:∀u,u≠t→s'.buf u=s.buf u)
  (hR:∀x u,u≠t→(R' x=.mine u↔R x=.mine u)) (hv:∀u x w,u≠t→R x=.mine u→s'.val x w=s.val x w) (hlv:∀u,u<K.X.n→u≠t→s'.val (K.lc u) (K.lw u)=s.val (K.lc u) (K.lw u))
  (hz:R' 0=.no) (hh:∀x,R' x≠.no→s'.here x=true) (hsp:∀x,K.spec x→R' x=.sp) (ht12:∀w,w≠0→s'.val K.top w=s.val K.top w)
  (hcl:ChL s'.val 1 (s'.val K.top 0) ch') (hcn:ch'.Nodup) (hcp:∀x,R' x=.pub↔x∈ch')
  (T:Ths K s' R' t q f') (hho:∀r,r<K.X.n→r≠t→hold (p r)→s.reg r 0≠0→(R' (s.reg r 0)=.pub∨∃w,R' (s.reg r 0)=.mine w)∧s'.val (s.reg r 0) 1=s.val (s.reg r 0) 1)
  (hq:hold q→(∃c d,q=.cl c d∧0<d)∧(s'.reg t 0=0∨R' (s'.reg t 0)=.pub∨(hold (p t)∧s'.reg t 0=s.reg t 0∧R' (s.reg t 0)=R (s.reg t 0)∧s'.buf t=s.buf t)))
  (hq2:hold2 q→s'.reg t 2=s'.val (s'.reg t 0) 1)
  (hg1:1≤f'.g→R' (s'.reg t 3)=.mine t→¬hold q∧∀r,r<K.X.n→r≠t→hold (p r)→s.reg r 0≠s'.reg t 3) (hg2:2≤f'.g→¬hold q∧∀r,r<K.X.n→r≠t→hold (p r)→R' (s.reg r 0)≠.mine t)
  (hbw:∀e∈s'.buf t,e.w=1→∀r,r<K.X.n→r≠t→hold (p r)→s.reg r 0≠e.a)
  (hce:Cells K s' fun u=>if u=t then nbOf f' q else nbOf (fl u) (p u))
  (hG:∀u,u≠t→G'.rem u=G.rem u∧G'.pend u=G.pend u) (hGr:G'.rem t=remOf f' (s'.reg t) q) (hGp:G'.pend t=pendOf (s'.reg t) (s'.vw t) q) (hGc:G'.chv=ch'.map fun x=>s'.val x 0) :
  CG K s' (upd p t q) (updP fl t f') R' ch' G':=by
 have hvu:∀u,u<K.X.n→u≠t→s'.vw u (K.lc u) (K.lw u)=s.vw u (K.lc u) (K.lw u)∧∀x w,R x=.mine u→s'.vw u x w=s.vw u x w:=fun u hu e=>⟨vw_same (e2 u e) (hlv u hu e),fun x w hx=>vw_same (e2 u e) (hv u x w e hx)⟩
 have hh0:∀r,r<K.X.n→hold (p r)→∀u,u<K.X.n→∀e∈s.buf u,s.reg r 0=0→s.reg r 0≠e.a:=fun r hr h u hu e he h0 g=>by
  have:=buf_ro C hu he;rw[←g,h0,C.z]at this
  rcases this with g|g <;> cases g
 refine ⟨hz,hh,hsp,fun u hu=>by rw[ht12 _ (by omega)];exact C.t12 u hu,hcl,hcn,hcp,fun u hu=>?_,fun u hu h=>?_,fun u hu h h0=>?_,fun u hu h=>?_,fun u hu h1 h2 r hr h=>?_,fun u hu h1 r hr h=>?_,fun u hu e he hw r hr h=>?_,?_,fun u hu=>?_,fun u hu=>?_,hGc⟩
 ·by_cases e:u=t
  ·subst e;rw[upd_same,updP_same];exact T
  ·rw[upd_ne _ _ e,updP_ne _ _ e];exact (C.th u hu).mono (e1 u e) (e2 u e) (fun x=>hR x u e) (hvu u hu e).1 (hvu u hu e).2
 ·by_cases e:u=t
  ·subst e;rw[upd_same]at h ⊢;exact (hq h).1
  ·rw[upd_ne _ _ e]at h ⊢;exact C.hd u hu h
 ·by_cases e:u=t
  ·subst e;rw[upd_same]at h
   rcases (hq h).2 with g|g|⟨g1,g2,g3,g4⟩
   ·exact absurd g h0
   ·exact .inl g
   ·rw[g2,g3];exact C.ho u hu g1 (by rw[←g2];exact h0)
  ·rw[upd_ne _ _ e]at h;rw[e1 u e]at h0 ⊢;exact (hho u hu e h h0).1
 ·by_cases e:u=t
  ·subst e;rw[upd_same]at h;exact hq2 h
  ·rw[upd_ne _ _ e]at h;rw[e1 u e,C.h2 u hu h]
   have hl:s.reg u 0≠0:=by
    obtain ⟨r5,bf,l,k1,k2,k3,k4⟩:=C.th u hu;unfold hold2 at h
    split at h
    ·rename_i e3;rw[e3]at k4;exact k4
    ·rename_i e3;rw[e3]at k4;exact k4.1
    ·exact h.elim
   exact ((hho u hu e (hold2_hold h) hl).2).symm
 ·by_cases er:r=t
  ·subst er;rw[upd_same]at h
   by_cases e:u=r
   ·subst e;rw[updP_same]at h1;exact absurd h (hg1 h1 h2).1
   ·rw[updP_ne _ _ e]at h1;rw[e1 u e]at h2 ⊢;have h2':=(hR _ u e).1 h2
    rcases (hq h).2 with g|g|⟨g1,g2,g3,g4⟩
    ·rw[g];intro g;rw[←g,C.z]at h2';cases h2'
    ·intro g';rw[g',h2]at g;cases g
    ·rw[g2];exact C.g1 u hu h1 h2' r hr g1
  ·rw[upd_ne _ _ er]at h;rw[e1 r er]
   by_cases e:u=t
   ·subst e;rw[updP_same]at h1;exact (hg1 h1 h2).2 r hr er h
   ·rw[updP_ne _ _ e]at h1;rw[e1 u e]at h2 ⊢;exact C.g1 u hu h1 ((hR _ u e).1 h2) r hr h
 ·by_cases er:r=t
  ·subst er;rw[upd_same]at h
   by_cases e:u=r
   ·subst e;rw[updP_same]at h1;exact absurd h (hg2 h1).1
   ·rw[updP_ne _ _ e]at h1
    rcases (hq h).2 with g|g|⟨g1,g2,g3,g4⟩
    ·rw[g,hz];simp
    ·rw[g];simp
    ·rw[g2,g3];exact C.g2 u hu h1 r hr g1
  ·rw[upd_ne _ _ er]at h;rw[e1 r er]
   by_cases e:u=t
   ·subst e;rw[updP_same]at h1;exact (hg2 h1).2 r hr er h
   ·rw[updP_ne _ _ e]at h1;exact fun g=>C.g2 u hu h1 r hr h ((hR _ u e).1 g)
 ·by_cases er:r=t
  ·subst er;rw[upd_same]at h
   have hne:R' e.a=.sp∨R' e.a=.mine u:=by
    by_cases eu:u=r
    ·subst eu
     rcases T.bufs e he with g|g|g
     ·exact .inl (hsp _ (.inl g))
     ·exact .inl (hsp _ (.inr (.inr ⟨u,hu,g.1⟩)))
     ·exact .inr g
    ·rw[e2 u eu]at he
     rcases (C.th u hu).bufs e he with g|g|g
     ·exact .inl (hsp _ (.inl g))
     ·exact .inl (hsp _ (.inr (.inr ⟨u,hu,g.1⟩)))
     ·exact .inr ((hR _ u eu).2 g)
   rcases (hq h).2 with g|g|⟨g1,g2,g3,g4⟩
   ·rw[g];intro g';rw[←g',hz]at hne;rcases hne with g|g <;> cases g
   ·intro g';rw[←g',g]at hne;rcases hne with g|g <;> cases g
   ·rw[g2]
    by_cases eu:u=r
    ·subst eu;rw[g4]at he;exact C.bw u hu e he hw u hr g1
    ·rw[e2 u eu]at he;exact C.bw u hu e he hw r hr g1
  ·rw[upd_ne _ _ er]at h;rw[e1 r er]
   by_cases eu:u=t
   ·subst eu;exact hbw e he hw r hr er h
   ·rw[e2 u eu]at he;exact C.bw u hu e he hw r hr h
 ·have hfun:(fun u=>nbOf (updP fl t f' u) (upd p t q u))=fun u=>if u=t then nbOf f' q else nbOf (fl u) (p u):=by
   funext u
   by_cases e:u=t
   ·subst e;rw[upd_same,updP_same,if_pos rfl]
   ·rw[upd_ne _ _ e,updP_ne _ _ e,if_neg e]
  rw[hfun];exact hce
 ·by_cases e:u=t
  ·subst e;rw[upd_same,updP_same];exact hGr
  ·rw[upd_ne _ _ e,updP_ne _ _ e,(hG u e).1,e1 u e];exact C.rem u hu
 ·by_cases e:u=t
  ·subst e;rw[upd_same];exact hGp
  ·rw[upd_ne _ _ e,(hG u e).2,C.pend u hu];exact ((C.th u hu).pend (e1 u e) (hvu u hu e).2).symm
end Qp
end
section
namespace Qk
open Qs Qg
variable {K:Ck}{s s':A}{p:Nat→Pos}{fl:Nat→Fl}{R R':Int→Ro}{t u:Nat}{P q:Pos}{f f':Fl}{L:List Nat}{B:Int}{old:Nat→Nat→Prop}
theorem grace_key(T:Th K.X s old L t P)(ht:t<K.X.n){x:Instr}{f0:Nat}(hx:insOf f0 P=some (x.op,x.A,x.B,x.C))(tg:Nat) :
  (∀u k,u≠t∨3≤k→(s.ex t x tg).reg u k=s.reg u k)∧(∀u,u≠t→(s.ex t x tg).buf u=s.buf u)∧(∃l,(s.ex t x tg).buf t=s.buf t++l∧∀e∈l,K.X.gr e.a)∧(s.ex t x tg).here=s.here∧∀y w,¬K.X.gr y→(s.ex t x tg).val y w=s.val y w:=by
 obtain ⟨op,a,b,c,to⟩:=x;simp only at hx
 have hgr6:K.X.gr (s.reg t 6):=by rw[T.r6];exact gr_own ht
 have hgr7:K.X.gr (s.reg t 7):=by rw[T.r7];exact gr_hub
 have hset:∀(s1:A) (k:Nat) (v:Int),s1.reg=s.reg→k<3→∀u i,u≠t∨3≤i→(s1.setR t k v).reg u i=s.reg u i:=fun s1 k v h hk u i hu=>by
  show (if u=t∧i=k then v else s1.reg u i)=_;rw[h,if_neg (by omega)]
 rcases ins_what hx with ⟨rfl,h⟩|⟨rfl,rfl,rfl⟩|h|⟨h,h'⟩
 ·refine ⟨fun _ _ _=>rfl,fun u hu=>if_neg hu,⟨[⟨s.reg t a.toNat,c.toNat,s.reg t b.toNat⟩],if_pos rfl,fun e he=>?_⟩,rfl,fun _ _ _=>rfl⟩;rw[List.mem_singleton.1 he]
  rcases h with rfl|rfl
  ·exact hgr6
  ·exact hgr7
 ·unfold A.ex;simp only;refine ⟨fun u k hu=>?_,fun u hu=>?_,⟨[],?_,fun e he=>by cases he⟩,?_,fun y w hy=>?_⟩
  ·refine hset _ 0 _ ?_ (by omega) u k hu
   split <;> rfl
  ·show A.buf (if _ then _ else s) u=_
   split <;> rfl
  ·rw[List.append_nil];show A.buf (if _ then _ else s) t=_
   split <;> rfl
  ·show A.here (if _ then _ else s)=_
   split <;> rfl
  ·show A.val (if _ then _ else s) y w=_
   split
   ·refine if_neg ?_;rintro ⟨g,_⟩;have g':y=s.reg t 7:=g;exact hy (g' ▸ hgr7)
   ·rfl
 ·have hs:(s.ex t ⟨op,a,b,c,to⟩ tg).reg=s.reg∧(s.ex t ⟨op,a,b,c,to⟩ tg).buf=s.buf∧(s.ex t ⟨op,a,b,c,to⟩ tg).here=s.here∧(s.ex t ⟨op,a,b,c,to⟩ tg).val=s.val:=by
   rcases h with rfl|rfl|rfl|rfl|rfl|rfl
   ·exact ⟨rfl,rfl,rfl,rfl⟩
   ·exact ⟨rfl,rfl,rfl,rfl⟩
   ·unfold A.ex;simp only;split <;> exact ⟨rfl,rfl,rfl,rfl⟩
   ·unfold A.ex;simp only;split <;> exact ⟨rfl,rfl,rfl,rfl⟩
   ·exact ⟨rfl,rfl,rfl,rfl⟩
   ·exact ⟨rfl,rfl,rfl,rfl⟩
  exact ⟨fun u k _=>by rw[hs.1],fun u _=>by rw[hs.2.1],⟨[],by rw[hs.2.1,List.append_nil],fun e he=>by cases he⟩,hs.2.2.1,fun y w _=>by rw[hs.2.2.2]⟩
 ·have ha:a.toNat<3:=by omega
  have hs:∃v,s.ex t ⟨op,a,b,c,to⟩ tg=s.setR t a.toNat v:=by
   rcases h with rfl|rfl|rfl|rfl|rfl|rfl <;> exact ⟨_,rfl⟩
  obtain ⟨v,hv⟩:=hs;rw[hv];exact ⟨fun u k hu=>hset s _ v rfl ha u k hu,fun _ _=>rfl,⟨[],by rw[List.append_nil];rfl,fun e he=>by cases he⟩,rfl,fun _ _ _=>rfl⟩
def genQ:Pos→Bool
 |.cl 0 _=>true
 |.cl 10 _=>true
 |.cl 16 _=>true
 |.cl 20 _=>true
 |.cl 23 _=>true
 |.cl 30 _=>true
 |.cl 36 _=>true
 |.cl 48 _=>true
 |.cl _ _=>false
 |_=>true
def wEnd:Pos→Bool
 |.gv 1 2=>true
 |.cr 2=>true
 |_=>false
theorem tgt_gen(h:∀c d,P≠.cl c d):∀c d,tgtOf P≠.cl c d:=(kd_tgt P h).2
end Qk
end
section
namespace Qp
open Qs Qg
open Qk (Ro ChL Own grace_key tgt_gen)
open Qu (Gh sumN)
variable {K:Cp}{s s':A}{p:Nat→Pos}{fl:Nat→Fp}{R R':Int→Ro}{t u:Nat}{P q:Pos}{f f':Fp}{L:List Nat}{B:Int}{old:Nat→Nat→Prop}{ch ch':List Int}{G G':Gh}
def oldR(s:A)(p:Nat→Pos)(R:Int→Ro)(w r:Nat):Prop:=hold (p r)∧R (s.reg r 0)=.mine w
def HInv(K:Cp)(s:A)(p:Nat→Pos)(fl:Nat→Fp)(B:Int)(G:Gh):Prop:=∃L R ch,Core K.X s p (oldR s p R) L B∧CG K s p fl R ch G
def Cp.ck(K:Cp):Qk.Ck:=⟨K.X,K.top,K.lc,K.lw,K.nx,fun v=>v≠0,K.tg,K.lg,K.lt,K.li,by have:=K.n0;omega,fun _ h=>h⟩
theorem HInv.dr(I:HInv K s p fl B G)(t:Nat)(h:∀t,K.X.n≤t→s.buf t=[]):HInv K (s.dr t) p fl B G:=by
 obtain ⟨L,R,ch,C,D⟩:=I
 by_cases ht:t<K.X.n
 ·obtain ⟨L',C'⟩:=C.dr ht
  have ho:oldR (s.dr t) p R=oldR s p R:=by funext a b;unfold oldR;rw[A.dr_reg]
  exact ⟨L',R,ch,by rw[ho];exact C',D.dr ht⟩
 ·rw[show s.dr t=s from by unfold A.dr;rw[h t (by omega)]];exact ⟨L,R,ch,C,D⟩
theorem HInv.up(I:HInv K s p fl B G){B':Int}(h:B≤B'):HInv K s p fl B' G:=by
 obtain ⟨L,R,ch,C,D⟩:=I;exact ⟨L,R,ch,C.up h,D⟩
theorem CG.pc(D:CG K s p fl R ch G)(t k:Nat):CG K (s.setP t k) p fl R ch G:=⟨D.z,D.hr,D.sp,D.t12,D.cl,D.cn,D.cp,fun u hu=>⟨(D.th u hu).r5,(D.th u hu).bufs,(D.th u hu).ls⟩,D.hd,D.ho,D.h2,D.g1,D.g2,D.bw,D.cells,D.rem,D.pend,D.chv⟩
theorem HInv.pc(I:HInv K s p fl B G)(t k:Nat):HInv K (s.setP t k) p fl B G:=by
 obtain ⟨L,R,ch,C,D⟩:=I;exact ⟨L,R,ch,C.pc t k,D.pc t k⟩
theorem HInv.bufs(I:HInv K s p fl B G)(ht:t<K.X.n):∀e∈s.buf t,s.here e.a=true:=by
 obtain ⟨L,R,ch,C,D⟩:=I;intro e he;exact D.hr _ (by rcases buf_ro D ht he with g|g <;> rw[g] <;> simp)
def genQ:Pos→Bool
 |.cl 60 _=>true
 |.cl 72 _=>true
 |.cl 73 _=>true
 |.cl 80 _=>true
 |.cl 81 _=>true
 |.cl 87 _=>true
 |.cl 36 _=>true
 |.cl 48 _=>true
 |.cl 99 _=>true
 |.cl _ _=>false
 |_=>true
theorem Hnd_gen{rg:Nat→Int}{vw:Int→Nat→Int}{l:List Int}(h:genQ q=true):K.Hnd rg vw R t l f q↔Gen rg R t l f:=by
 unfold genQ at h
 split at h
 all_goals first
  |exact Iff.rfl
  |(cases h;done)
  |skip
 ·rename_i hn
  cases q with
  |cl c d=>exact (hn c d rfl).elim
  |_=>exact Iff.rfl
theorem genQ_hold(h:genQ q=true):¬hold q:=fun g=>by
 obtain ⟨c,d,rfl,hc⟩:=hold_cl g
 rcases hc with rfl|rfl|rfl|rfl <;> cases h
theorem genQ_pend(h:genQ q=true)(rg:Nat→Int)(vw:Int→Nat→Int):pendOf rg vw q=[]:=by
 unfold genQ at h
 split at h
 all_goals first
  |rfl
  |(cases h;done)
  |skip
 ·rename_i hn
  cases q with
  |cl c d=>exact (hn c d rfl).elim
  |_=>rfl
theorem Gen.regs{rg rg':Nat→Int}{l:List Int}(h:Gen rg R t l f)(h3:rg' 3=rg 3)(hf:f'.r=true→f.r=true):Gen rg' R t l f':=fun g=>by rw[h3];exact h (hf g)
def Stat(f:Fp)(q:Pos)(l:List Int):Prop:=nbOf f q=l.length∧∀rg,remOf f rg q=l
def wEnd:Pos→Bool
 |.gv 1 2=>true
 |.cr 2=>true
 |_=>false
structure NextF(f0:Nat)(P q:Pos)(f f':Fp):Prop where
 nx:NextOk f0 P q
 gq:genQ q=true∨(∃d,q=.cl 40 d)∧2≤f'.g∨(∃d,q=.cl 30 d)∧f'.r=true
 r:f'.r=true→f.r=true
 g:f'.g≤f.g∨wEnd P=true
 s:Stat f' q f.rest
theorem grace_hold{x:Nat × Int × Int × Int}{f0:Nat}(h:insOf f0 P=some x):genQ P=true∧Stat f P f.rest:=by
 cases P with
 |cl c d=>cases h
 |_=>exact ⟨rfl,rfl,fun _=>rfl⟩
theorem stat_grace(h:∀c d,q≠.cl c d):Stat f q f.rest:=by
 cases q with
 |cl c d=>exact absurd rfl (h c d)
 |_=>exact ⟨rfl,fun _=>rfl⟩
theorem cells_same{K:Cp}{s s':A}{nb nb':Nat→Nat}(h:Cells K s nb)(hh:s'.here=s.here)(hn:∀u,u<K.X.n→nb' u=nb u):Cells K s' nb':=by
 obtain ⟨Ls,k1,k2,k3⟩:=h;exact ⟨Ls,k1,by rw[hh];exact k2,by rw[Qu.sumN_cong _ hn];exact k3⟩
theorem HInv.grace(I:HInv K s p fl B G)(ht:t<K.X.n){x:Instr}(hx:insOf K.X.f (p t)=some (x.op,x.A,x.B,x.C))
  (hb:x.op=9∨x.op=12→s.buf t=[]) (hb2:x.op=13→∀u,u<K.X.n→s.buf u=[]) (O:∀r,r<K.X.n→K.X.own r≠0) (hB:B<4000000000) {q:Pos} {f':Fp}
  (hj:Jmp s t x→q=tgtOf (p t)∧f'=fl t) (hf:¬Jmp s t x→NextF K.X.f (p t) q (fl t) f') (tg:Nat):HInv K (s.ex t x tg) (upd p t q) (updP fl t f') (B+2) G:=by
 obtain ⟨L,R,ch,C,D⟩:=I;have T:=C.th t ht;have Tb:=T.b;obtain ⟨hgP,hsP⟩:=grace_hold (f:=fl t) hx;have hnh:=genQ_hold hgP
 have hncl:∀c d,p t≠.cl c d:=fun c d e=>by rw[e]at hx;cases hx
 have C':=C.step ht hx hb hb2 O hB (fun h=>(hj h).1) (fun h=>(hf h).nx) tg
 have hq:(genQ q=true∨(∃d,q=.cl 40 d)∧2≤f'.g∨(∃d,q=.cl 30 d)∧f'.r=true)∧(f'.r=true→(fl t).r=true)∧(f'.g≤(fl t).g∨∀r,r<K.X.n→¬oldR s p R t r)∧Stat f' q (fl t).rest:=by
  by_cases hJ:Jmp s t x
  ·obtain ⟨rfl,rfl⟩:=hj hJ;have hn:=tgt_gen hncl;refine ⟨.inl ?_,id,.inl (Nat.le_refl _),stat_grace hn⟩
   cases e:tgtOf (p t)with
   |cl c d=>exact absurd e (hn c d)
   |_=>rfl
  ·obtain ⟨h1,h2,h3,h4,h5⟩:=hf hJ;refine ⟨h2,h3,h4.imp id fun g r hr=>?_,h5⟩;unfold wEnd at g
   split at g
   ·rename_i e
    rw[e]at Tb;have Tb':K.X.LGv (s.reg t) (s.buf t) (oldR s p R t) 1 2:=Tb;exact Tb'.2.1 r hr
   ·rename_i e
    rw[e]at Tb;exact Tb.2 r hr
   ·cases g
 clear hj hf;obtain ⟨hqg,hfr,hfg,hst⟩:=hq;obtain ⟨k1,k2,⟨l2,k3,k3'⟩,k4,k5⟩:=grace_key (K:=K.ck) T ht hx tg
 have hqn:¬hold q∧∀rg vw,pendOf rg vw q=[]:=by
  rcases hqg with g|⟨⟨d,rfl⟩,_⟩|⟨⟨d,rfl⟩,_⟩
  ·exact ⟨genQ_hold g,genQ_pend g⟩
  ·exact ⟨fun h=>h,fun _ _=>rfl⟩
  ·exact ⟨fun h=>h,fun _ _=>rfl⟩
 obtain ⟨hqn,hqp⟩:=hqn
 have ho:oldR (s.ex t x tg) (upd p t q) R=oldR s p R:=by
  funext w r
  unfold oldR
  by_cases e:r=t
  ·subst e;rw[upd_same];exact propext ⟨fun h=>absurd h.1 hqn,fun h=>absurd h.1 hnh⟩
  ·rw[upd_ne _ _ e,k1 r 0 (.inl e)]
 obtain ⟨s1,hs1⟩:∃s1,s1=s.ex t x tg:=⟨_,rfl⟩;rw[←hs1]at k1 k2 k3 k4 k5 ho C' ⊢
 have ngr:∀x,(R x=.pub∨∃w,R x=.mine w)→¬K.X.gr x:=fun x h g=>by
  rw[sp_gr D g]at h
  rcases h with h|⟨w,h⟩ <;> cases h
 have hvw:∀x w,¬K.X.gr x→s1.vw t x w=s.vw t x w:=fun x w hx=>by
  unfold A.vw;rw[k3,k5 x w hx];unfold lk1;rw[List.foldl_append];exact lk1_none fun e he ha=>absurd (ha ▸ k3' e he) hx
 have Tt:=D.th t ht
 refine ⟨L,R,ch,by rw[ho];exact C',D.own ht q f' (fun u hu=>funext fun k=>k1 u k (.inl hu)) k2 (fun _ _ _=>Iff.rfl) (fun u x w hu hx=>k5 x w (ngr x (.inr ⟨u,hx⟩))) (fun u hu _=>k5 _ _ (K.lg u)) D.z (fun x hx=>by rw[k4];exact D.hr x hx) D.sp (fun w _=>k5 _ _ K.tg) ?_ D.cn D.cp ?_ (fun r hr hne hh h0=>?_) (fun h=>absurd h hqn) (fun h=>absurd (hold2_hold h) hqn) (fun h1 h2=>⟨hqn,fun r hr hne hh=>?_⟩) (fun h1=>⟨hqn,fun r hr hne hh=>?_⟩) (fun e he hw r hr hne hh=>?_) ?_ (fun _ _=>⟨rfl,rfl⟩) ?_ ?_ ?_⟩
 ·rw[k5 _ _ K.tg];exact D.cl.keep fun x hx=>k5 x 1 (ngr x (.inl ((D.cp x).2 hx)))
 ·obtain ⟨r5,bf,l,h1,h2,h3,h4⟩:=Tt;refine ⟨by rw[k1 t 5 (.inr (by omega))];exact r5,fun e he=>?_,l,?_,h2,h3,?_⟩
  ·rw[k3]at he
   rcases List.mem_append.1 he with g|g
   ·exact bf e g
   ·exact .inl (k3' e g)
  ·rw[hvw _ _ (K.lg t)];exact h1.keep fun x hx=>hvw x _ (ngr x (.inr ⟨t,(h2 x hx).2⟩))
  ·have hG:=((Hnd_gen hgP).1 h4).regs (rg':=s1.reg t) (k1 t 3 (.inr (by omega))) hfr
   rcases hqg with g|⟨⟨d,rfl⟩,g⟩|⟨⟨d,rfl⟩,g⟩
   ·exact (Hnd_gen g).2 hG
   ·exact g
   ·exact hG g
 ·have h1:=D.ho r hr hh h0;exact ⟨h1,k5 _ _ (ngr _ h1)⟩
 ·rw[k1 t 3 (.inr (by omega))]at h2 ⊢
  rcases hfg with g|g
  ·exact D.g1 t ht (by omega) h2 r hr hh
  ·exact fun e=>g r hr ⟨hh,by rw[e];exact h2⟩
 ·rcases hfg with g|g
  ·exact D.g2 t ht (Nat.le_trans h1 g) r hr hh
  ·exact fun e=>g r hr ⟨hh,e⟩
 ·rw[k3]at he
  rcases List.mem_append.1 he with g|g
  ·exact D.bw t ht e g hw r hr hh
  ·intro e2;have h1:=sp_gr D (k3' e g)
   by_cases h0:s.reg r 0=0
   ·rw[←e2,h0,D.z]at h1;cases h1
   ·have h2:=D.ho r hr hh h0;rw[e2,h1]at h2
    rcases h2 with h|⟨w,h⟩ <;> cases h
 ·refine cells_same D.cells k4 fun u hu=>?_
  by_cases e:u=t
  ·subst e;show (if u=u then nbOf f' q else _)=_;rw[if_pos rfl,hst.1,hsP.1]
  ·show (if u=t then nbOf f' q else _)=_;rw[if_neg e]
 ·rw[hst.2,D.rem t ht,hsP.2]
 ·rw[hqp,D.pend t ht,genQ_pend hgP]
 ·rw[D.chv];exact List.map_congr_left fun x hx=>(k5 x 0 (ngr x (.inl ((D.cp x).2 hx)))).symm
end Qp
end
section
namespace Qg
open Qs
variable {X:Cx}{ptr:Int}{s s':A}{p p':Nat→Pos}{L L':List Nat}{B:Int}{t u:Nat}
theorem setR_self(s:A)(t k:Nat)(v:Int)(i:Nat):(s.setR t k v).reg t i=if i=k then v else s.reg t i:=by rw[setR_reg];rfl
theorem setR_at(s:A)(t k:Nat)(v:Int):(s.setR t k v).reg t k=v:=by rw[setR_self,if_pos rfl]
theorem setR_off(s:A)(t k:Nat)(v:Int){i:Nat}(h:i≠k):(s.setR t k v).reg t i=s.reg t i:=by rw[setR_self,if_neg h]
end Qg
end
section
namespace Qp
open Qs Qg
open Qk (Ro ChL Own)
open Qu (Gh sumN)
variable {K:Cp}{s s':A}{p:Nat→Pos}{fl:Nat→Fp}{R R':Int→Ro}{t u:Nat}{P q:Pos}{f f':Fp}{L:List Nat}{B:Int}{c d d':Nat}{ch ch':List Int}{G G':Gh}
theorem rset_eq(rg:Nat→Int)(k:Nat)(v:Int)(i:Nat):rset rg k v i=if i=k then v else rg i:=rfl
theorem HInv.own(C:Core K.X s p (oldR s p R) L B)(D:CG K s p fl R ch G)(ht:t<K.X.n)(hp:p t=.cl c d)(q:Pos)(f':Fp)(hst:startD K.X.f q=some d')(hd:d'<100)(hdd:K.X.f≠3→d'=d)
  (e1:∀u,u≠t→s'.reg u=s.reg u) (e2:∀u,u≠t→s'.buf u=s.buf u) (r6:s'.reg t 6=s.reg t 6) (r7:s'.reg t 7=s.reg t 7) (lb:List En) (hb:s'.buf t=s.buf t++lb) (hlb:∀e∈lb,¬K.X.gr e.a) (hgv:∀x w,K.X.gr x→s'.val x w=s.val x w)
  (hR:∀x u,u≠t→(R' x=.mine u↔R x=.mine u)) (hv:∀u x w,u≠t→R x=.mine u→s'.val x w=s.val x w) (hlv:∀u,u<K.X.n→u≠t→s'.val (K.lc u) (K.lw u)=s.val (K.lc u) (K.lw u))
  (hz:R' 0=.no) (hh:∀x,R' x≠.no→s'.here x=true) (hsp:∀x,K.spec x→R' x=.sp) (ht12:∀w,w≠0→s'.val K.top w=s.val K.top w)
  (hcl:ChL s'.val 1 (s'.val K.top 0) ch') (hcn:ch'.Nodup) (hcp:∀x,R' x=.pub↔x∈ch')
  (T:Ths K s' R' t q f') (hho:∀r,r<K.X.n→r≠t→hold (p r)→s.reg r 0≠0→(R' (s.reg r 0)=.pub∨∃w,R' (s.reg r 0)=.mine w)∧s'.val (s.reg r 0) 1=s.val (s.reg r 0) 1)
  (hq:hold q→(∃c d,q=.cl c d∧0<d)∧(s'.reg t 0=0∨R' (s'.reg t 0)=.pub∨(hold (p t)∧s'.reg t 0=s.reg t 0∧R' (s.reg t 0)=R (s.reg t 0)∧s'.buf t=s.buf t)))
  (hq2:hold2 q→s'.reg t 2=s'.val (s'.reg t 0) 1)
  (hg1:1≤f'.g→R' (s'.reg t 3)=.mine t→¬hold q∧∀r,r<K.X.n→r≠t→hold (p r)→s.reg r 0≠s'.reg t 3) (hg2:2≤f'.g→¬hold q∧∀r,r<K.X.n→r≠t→hold (p r)→R' (s.reg r 0)≠.mine t)
  (hbw:∀e∈s'.buf t,e.w=1→∀r,r<K.X.n→r≠t→hold (p r)→s.reg r 0≠e.a)
  (hce:Cells K s' fun u=>if u=t then nbOf f' q else nbOf (fl u) (p u))
  (hG:∀u,u≠t→G'.rem u=G.rem u∧G'.pend u=G.pend u) (hGr:G'.rem t=remOf f' (s'.reg t) q) (hGp:G'.pend t=pendOf (s'.reg t) (s'.vw t) q) (hGc:G'.chv=ch'.map fun x=>s'.val x 0) :
  HInv K s' (upd p t q) (updP fl t f') B G':=by
 refine ⟨L,R',ch',C.client ht hp q hst hd hdd e1 e2 hgv r6 r7 lb hb hlb (fun u r hu hr hut ho=>?_) (fun u r hu hr ho=>?_),D.own ht q f' e1 e2 hR hv hlv hz hh hsp ht12 hcl hcn hcp T hho hq hq2 hg1 hg2 hbw hce hG hGr hGp hGc⟩
 ·obtain ⟨h1,h2⟩:=ho
  by_cases e:r=t
  ·subst e;rw[upd_same]at h1
   rcases (hq h1).2 with g|g|⟨g1,g2,g3,g4⟩
   ·rw[g,hz]at h2;cases h2
   ·rw[g]at h2;cases h2
   ·rw[g2,g3]at h2;exact ⟨g1,h2⟩
  ·rw[upd_ne _ _ e]at h1;rw[e1 r e]at h2;exact ⟨h1,(hR _ u hut).1 h2⟩
 ·obtain ⟨h1,h2⟩:=ho
  by_cases e:r=t
  ·subst e;rw[upd_same]at h1 ⊢;exact (hq h1).1
  ·rw[upd_ne _ _ e]at h1 ⊢;exact D.hd r hr h1
theorem top_ro(D:CG K s p fl R ch G):s.val K.top 0=0∨R (s.val K.top 0)=.pub:=by
 have h:=D.cl
 cases hc:ch with
 |nil=>rw[hc]at h;exact .inl h
 |cons x l=>rw[hc]at h;exact .inr (by rw[h.1];exact (D.cp x).2 (by rw[hc];simp))
theorem nb_sum{nb:Nat→Nat}{n a:Nat}(ht:t<n):sumN (fun u=>if u=t then a else nb u) n+nb t=sumN nb n+a:=Qu.sumN_upd nb t a n ht
theorem HInv.loc(I:HInv K s p fl B G)(ht:t<K.X.n)(hp:p t=.cl c d)(q:Pos)(f':Fp)(hst:startD K.X.f q=some d')(hd:d'<100)(hdd:K.X.f≠3→d'=d)
  (e1:∀u,u≠t→s'.reg u=s.reg u) (e2:∀u,u≠t→s'.buf u=s.buf u) (r67:s'.reg t 6=s.reg t 6∧s'.reg t 7=s.reg t 7) (lb:List En) (hb:s'.buf t=s.buf t++lb) (hlb:∀e∈lb,¬K.X.gr e.a) (hv:s'.val=s.val) (hh:s'.here=s.here)
  (hq:hold q→(∃c d,q=.cl c d∧0<d)∧(s'.reg t 0=s.val K.top 0∨(hold (p t)∧s'.reg t 0=s.reg t 0∧lb=[])))
  (hq2:hold2 q→s'.reg t 2=s.val (s'.reg t 0) 1)
  (hg:f'.g=0∨(¬hold q∧(s'.reg t 3=0∨s'.reg t 3=s.reg t 3)∧f'.g≤(fl t).g)∨(¬hold q∧s'.reg t 3=0∧f'.g≤1))
  (hbw:∀R ch,CG K s p fl R ch G→∀e∈lb,e.w=1→∀r,r<K.X.n→r≠t→hold (p r)→s.reg r 0≠e.a)
  (hnb:nbOf f' q≤nbOf (fl t) (p t))
  (hG:∀u,u≠t→G'.rem u=G.rem u∧G'.pend u=G.pend u) (hGc:G'.chv=G.chv) (hGr:G'.rem t=remOf f' (s'.reg t) q) (hGp:∀R ch,CG K s p fl R ch G→G'.pend t=pendOf (s'.reg t) (s'.vw t) q)
  (T:∀R ch,CG K s p fl R ch G→Ths K s' R t q f'):HInv K s' (upd p t q) (updP fl t f') B G':=by
 obtain ⟨L,R,ch,C,D⟩:=I
 refine HInv.own C D ht hp q f' hst hd hdd e1 e2 r67.1 r67.2 lb hb hlb (fun x w _=>by rw[hv]) (fun _ _ _=>Iff.rfl) (fun _ _ _ _ _=>by rw[hv]) (fun _ _ _=>by rw[hv]) D.z (fun x hx=>by rw[hh];exact D.hr x hx) D.sp (fun _ _=>by rw[hv]) (by rw[hv];exact D.cl) D.cn D.cp (T R ch D) (fun r hr _ h h0=>⟨D.ho r hr h h0,by rw[hv]⟩) (fun h=>⟨(hq h).1,?_⟩) (fun h=>by rw[hv];exact hq2 h) (fun h1 h2=>?_) (fun h1=>?_) (fun e he hw r hr hne h=>?_) ?_ hG hGr (hGp R ch D) (by rw[hGc,D.chv,hv])
 ·rcases (hq h).2 with g|⟨g1,g2,g3⟩
  ·rw[g];exact (top_ro D).imp id fun h=>.inl h
  ·exact .inr (.inr ⟨g1,g2,rfl,by rw[hb,g3,List.append_nil]⟩)
 ·rcases hg with g|⟨g0,g,g2⟩|⟨g0,g,g2⟩
  ·omega
  ·refine ⟨g0,fun r hr hne h=>?_⟩
   rcases g with g|g
   ·rw[g,D.z]at h2;cases h2
   ·rw[g]at h2 ⊢;exact D.g1 t ht (by omega) h2 r hr h
  ·rw[g,D.z]at h2;cases h2
 ·rcases hg with g|⟨g0,g,g2⟩|⟨g0,g,g2⟩
  ·omega
  ·exact ⟨g0,fun r hr hne h=>D.g2 t ht (by omega) r hr h⟩
  ·omega
 ·rw[hb]at he
  rcases List.mem_append.1 he with g|g
  ·exact D.bw t ht e g hw r hr h
  ·exact hbw R ch D e g hw r hr hne h
 ·obtain ⟨Ls,k1,k2,k3⟩:=D.cells;refine ⟨Ls,k1,by rw[hh];exact k2,?_⟩;have:=nb_sum (nb:=fun u=>nbOf (fl u) (p u)) (a:=nbOf f' q) ht;omega
theorem Ths.setR(T:Ths K s R t P f){k:Nat}(hk:k≠5)(v:Int)(hH:∀l,ChL (s.vw t) K.nx (s.vw t (K.lc t) (K.lw t)) l→(∀x∈l,x≠0∧R x=.mine t)→K.Hnd (s.reg t) (s.vw t) R t l f P→K.Hnd (rset (s.reg t) k v) (s.vw t) R t l f' q):Ths K (s.setR t k v) R t q f':=by
 obtain ⟨r5,bf,l,h1,h2,h3,h4⟩:=T;refine ⟨by rw[setR_reg,rset_eq,if_neg (fun e=>hk e.symm)];exact r5,bf,l,h1,h2,h3,?_⟩;rw[setR_reg];exact hH l h1 h2 h4
theorem Ths.nop(T:Ths K s R t P f)(hH:∀l,ChL (s.vw t) K.nx (s.vw t (K.lc t) (K.lw t)) l→(∀x∈l,x≠0∧R x=.mine t)→K.Hnd (s.reg t) (s.vw t) R t l f P→K.Hnd (s.reg t) (s.vw t) R t l f' q):Ths K s R t q f':=by
 obtain ⟨r5,bf,l,h1,h2,h3,h4⟩:=T;exact ⟨r5,bf,l,h1,h2,h3,hH l h1 h2 h4⟩
theorem HInv.set(I:HInv K s p fl B G)(ht:t<K.X.n)(hp:p t=.cl c d)(q:Pos)(f':Fp)(hst:startD K.X.f q=some d')(hd:d'<100)(hdd:K.X.f≠3→d'=d){k:Nat}(hk:k<5)(v:Int)
  (hq:hold q→(∃c d,q=.cl c d∧0<d)∧((k=0∧v=s.val K.top 0)∨(k≠0∧hold (p t)))) (hq2:hold2 q→rset (s.reg t) k v 2=s.val (rset (s.reg t) k v 0) 1)
  (hg:f'.g=0∨(¬hold q∧(k=3→v=0)∧f'.g≤(fl t).g)∨(¬hold q∧k=3∧v=0∧f'.g≤1)) (hnb:nbOf f' q≤nbOf (fl t) (.cl c d)) (hr:remOf f' (rset (s.reg t) k v) q=remOf (fl t) (s.reg t) (.cl c d))
  (hpd:pendOf (rset (s.reg t) k v) (s.vw t) q=pendOf (s.reg t) (s.vw t) (.cl c d))
  (hH:∀R ch l,CG K s p fl R ch G→ChL (s.vw t) K.nx (s.vw t (K.lc t) (K.lw t)) l→(∀x∈l,x≠0∧R x=.mine t)→K.Hnd (s.reg t) (s.vw t) R t l (fl t) (.cl c d)→K.Hnd (rset (s.reg t) k v) (s.vw t) R t l f' q):HInv K (s.setR t k v) (upd p t q) (updP fl t f') B G:=by
 refine I.loc ht hp q f' hst hd hdd (fun u hu=>setR_ne _ _ _ hu) (fun _ _=>rfl) ⟨setR_off _ _ _ _ (by omega),setR_off _ _ _ _ (by omega)⟩ [] (by rw[List.append_nil];rfl) (fun e he=>by cases he) rfl rfl (fun h=>⟨(hq h).1,?_⟩) (fun h=>by rw[setR_reg];exact hq2 h) ?_ (fun _ _ _ e he=>by cases he) (by rw[hp];exact hnb) (fun _ _=>⟨rfl,rfl⟩) rfl ?_ (fun R ch D=>?_) (fun R ch D=>?_)
 ·rcases (hq h).2 with ⟨rfl,a3⟩|⟨g1,g2⟩
  ·left;rw[setR_at];exact a3
  ·right;exact ⟨g2,setR_off _ _ _ _ (fun e=>g1 e.symm),rfl⟩
 ·rcases hg with g|⟨g0,g,g2⟩|⟨g0,rfl,rfl,g2⟩
  ·exact .inl g
  ·refine .inr (.inl ⟨g0,?_,g2⟩)
   by_cases e:k=3
   ·left;subst e;rw[setR_at];exact g rfl
   ·right;exact setR_off _ _ _ _ (fun h=>e h.symm)
  ·exact .inr (.inr ⟨g0,setR_at _ _ _ _,g2⟩)
 ·obtain ⟨L,R,ch,C,D⟩:=I;rw[D.rem t ht,hp,←hr,setR_reg]
 ·rw[D.pend t ht,hp,←hpd,setR_reg];rfl
 ·have T:=D.th t ht;rw[hp]at T;exact T.setR (by omega) v fun l h1 h2 h4=>hH R ch l D h1 h2 h4
theorem HInv.nop(I:HInv K s p fl B G)(ht:t<K.X.n)(hp:p t=.cl c d)(q:Pos)(f':Fp)(hst:startD K.X.f q=some d')(hd:d'<100)(hdd:K.X.f≠3→d'=d)
  (hq:hold q→(∃c d,q=.cl c d∧0<d)∧hold (p t)) (hq2:¬hold2 q) (hg:f'.g=0∨(¬hold q∧f'.g≤(fl t).g)) (hnb:nbOf f' q≤nbOf (fl t) (.cl c d))
  (hr:remOf f' (s.reg t) q=remOf (fl t) (s.reg t) (.cl c d)) (hpd:∀R ch l,CG K s p fl R ch G→K.Hnd (s.reg t) (s.vw t) R t l (fl t) (.cl c d)→pendOf (s.reg t) (s.vw t) q=pendOf (s.reg t) (s.vw t) (.cl c d))
  (hH:∀R ch l,CG K s p fl R ch G→ChL (s.vw t) K.nx (s.vw t (K.lc t) (K.lw t)) l→(∀x∈l,x≠0∧R x=.mine t)→K.Hnd (s.reg t) (s.vw t) R t l (fl t) (.cl c d)→K.Hnd (s.reg t) (s.vw t) R t l f' q):HInv K s (upd p t q) (updP fl t f') B G:=by
 refine I.loc ht hp q f' hst hd hdd (fun u hu=>rfl) (fun _ _=>rfl) ⟨rfl,rfl⟩ [] (List.append_nil _).symm (fun e he=>by cases he) rfl rfl (fun h=>⟨(hq h).1,.inr ⟨(hq h).2,rfl,rfl⟩⟩) (fun h=>absurd h hq2) (hg.imp id fun g=>.inl ⟨g.1,.inr rfl,g.2⟩) (fun _ _ _ e he=>by cases he) (by rw[hp];exact hnb) (fun _ _=>⟨rfl,rfl⟩) rfl ?_ (fun R ch D=>?_) (fun R ch D=>?_)
 ·obtain ⟨L,R,ch,C,D⟩:=I;rw[D.rem t ht,hp,←hr]
 ·have T:=D.th t ht;rw[hp]at T;obtain ⟨r5,bf,l,h1,h2,h3,h4⟩:=T;rw[D.pend t ht,hp,hpd R ch l D h4]
 ·have T:=D.th t ht;rw[hp]at T;exact T.nop fun l h1 h2 h4=>hH R ch l D h1 h2 h4
theorem top_vw(D:CG K s p fl R ch G)(ht:t<K.X.n)(w:Nat):s.vw t K.top w=s.val K.top w:=vw_free fun e he ha=>by
 rcases (D.th t ht).bufs e he with g|g|g
 ·exact absurd (ha ▸ g) K.tg
 ·exact absurd (g.1.symm.trans ha) (K.lt t)
 ·have:=sp_top D;rw[←ha,g]at this;cases this
theorem HInv.top(I:HInv K s p fl B G)(ht:t<K.X.n):s.reg t 5=K.top∧s.here K.top=true∧(∀w,s.vw t K.top w=s.val K.top w)∧s.val K.top (1+t/4)=K.lc t∧s.here (K.lc t)=true:=by
 obtain ⟨L,R,ch,C,D⟩:=I;exact ⟨(D.th t ht).r5,D.hr _ (by rw[sp_top D];simp),fun w=>top_vw D ht w,D.t12 t ht,D.hr _ (by rw[sp_lc D ht];simp)⟩
theorem hold_vw(D:CG K s p fl R ch G)(ht:t<K.X.n)(h:hold (p t))(h0:s.reg t 0≠0):s.here (s.reg t 0)=true∧s.vw t (s.reg t 0) 1=s.val (s.reg t 0) 1:=by
 refine ⟨D.hr _ (by rcases D.ho t ht h h0 with h1|⟨w,h1⟩ <;> rw[h1] <;> simp),vw_free fun e he ha hw=>?_⟩;exact D.bw t ht e he hw t ht h ha.symm
structure Beg2(f0 d:Nat)(q:Pos)(f f':Fp):Prop where
 gq:genQ q=true
 st:∃d',startD f0 q=some d'∧d'<100∧(f0≠3→d'=d)
 r:f'.r=true→f.r=true
 g:f'.g≤f.g
 s:Stat f' q f.rest
def Same(f f':Fp):Prop:=f'.cur=f.cur∧f'.rest=f.rest
theorem HInv.cend(I:HInv K s p fl B G)(ht:t<K.X.n)(hp:p t=.cl c d)(hc:genQ (.cl c d)=true)(hs:Stat (fl t) (.cl c d) (fl t).rest)(b:Beg2 K.X.f d q (fl t) f'):HInv K s (upd p t q) (updP fl t f') B G:=by
 obtain ⟨d',b1,b2,b3⟩:=b.st;have hn:=genQ_hold b.gq
 refine I.nop ht hp _ f' b1 b2 b3 (fun h=>absurd h hn) (fun h=>hn (hold2_hold h)) (.inr ⟨hn,b.g⟩) (by rw[b.s.1,hs.1];exact Nat.le_refl _) (by rw[b.s.2,hs.2]) (fun _ _ _ _ _=>by rw[genQ_pend b.gq,genQ_pend hc]) fun R ch l D _ _ h=>(Hnd_gen b.gq).2 (Gen.regs ((Hnd_gen hc).1 h) rfl b.r)
theorem HInv.c93(I:HInv K s p fl B G)(ht:t<K.X.n)(hp:p t=.cl 93 d)(gq:genQ q=true∨∃d2,q=.cl 30 d2)(st:∃d',startD K.X.f q=some d'∧d'<100∧(K.X.f≠3→d'=d))(hg:f'.g≤(fl t).g)(hs:Stat f' q (fl t).rest):HInv K s (upd p t q) (updP fl t f') B G:=by
 obtain ⟨d',b1,b2,b3⟩:=st
 have hn:¬hold q∧(∀rg vw,pendOf rg vw q=[]):=by
  rcases gq with g|⟨d2,rfl⟩
  ·exact ⟨genQ_hold g,genQ_pend g⟩
  ·exact ⟨fun h=>h,fun _ _=>rfl⟩
 refine I.nop ht hp _ f' b1 b2 b3 (fun h=>absurd h hn.1) (fun h=>hn.1 (hold2_hold h)) (.inr ⟨hn.1,hg⟩) (by rw[hs.1];exact Nat.le_refl _) (by rw[hs.2];rfl) (fun _ _ _ _ _=>by rw[hn.2];rfl) fun R ch l D _ _ h=>?_
 rcases gq with g|⟨d2,rfl⟩
 ·exact (Hnd_gen g).2 fun _=>h
 ·exact h
end Qp
end
section
namespace Qp
open Qs Qg
open Qk (Ro ChL Own)
open Qu (Gh sumN)
variable {K:Cp}{s s':A}{p:Nat→Pos}{fl:Nat→Fp}{R R':Int→Ro}{t u:Nat}{P q:Pos}{f f':Fp}{L:List Nat}{B:Int}{c d d':Nat}{ch ch':List Int}{G G':Gh}
theorem Same.nb(h:Same f f'):f'.rest.length=f.rest.length:=by rw[h.2]
theorem NewV.same{rg rg':Nat→Int}{vw:Int→Nat→Int}{l:List Int}(h:NewV rg vw R t l f)(hs:Same f f')(hg:1≤f'.g)(h3:rg' 3=rg 3):NewV rg' vw R t l f':=⟨by rw[h3];exact h.1,hg,by rw[h3,hs.1];exact h.2.2⟩
theorem HInv.c60z(I:HInv K s p fl B G)(ht:t<K.X.n)(hp:p t=.cl 60 d)(hd:d<100)(hs:Same (fl t) f')(hg:f'.g=1):G.rem t=(fl t).cur :: (fl t).rest∧HInv K (s.setR t 3 0) (upd p t (.cl 61 d)) (updP fl t f') B {G with rem:=Qu.upd G.rem t (fl t).rest,lost:=(fl t).cur :: G.lost}:=by
 have I0:=I;obtain ⟨L,R,ch,C,D⟩:=I
 refine ⟨by rw[D.rem t ht,hp];rfl,I0.loc ht hp _ f' (d':=d) rfl hd (fun _=>rfl) (fun u hu=>setR_ne _ _ _ hu) (fun _ _=>rfl) ⟨setR_off _ _ _ _ (by omega),setR_off _ _ _ _ (by omega)⟩ [] (List.append_nil _).symm (fun e he=>by cases he) rfl rfl (fun h=>h.elim) (fun h=>h.elim) (.inr (.inr ⟨fun h=>h,setR_at _ _ _ _,by omega⟩)) (fun _ _ _ e he=>by cases he) (by rw[hp];show f'.rest.length≤(fl t).rest.length+1;rw[hs.2];omega) (fun u hu=>⟨Qu.upd_ne _ _ hu,rfl⟩) rfl ?_ (fun R ch D=>?_) (fun R ch D=>?_)⟩
 ·show Qu.upd G.rem t (fl t).rest t=if (s.setR t 3 0).reg t 3=0 then f'.rest else f'.cur :: f'.rest
  rw[Qu.upd_same,setR_at,if_pos rfl,hs.2]
 ·show G.pend t=[];rw[D.pend t ht,hp];rfl
 ·have T:=D.th t ht;rw[hp]at T;exact T.setR (by omega) 0 fun l h1 h2 h4=>⟨.inl (by rw[rset_eq,if_pos rfl]),by omega⟩
theorem HInv.c61z(I:HInv K s p fl B G)(ht:t<K.X.n)(hp:p t=.cl 61 d)(hd:d<100)(hs:Same (fl t) f')(hg:f'.g=0)(hr:f'.r=false)(hz:s.reg t 3=0):HInv K s (upd p t (.cl 73 d)) (updP fl t f') B G:=
 I.nop ht hp _ f' (d':=d) rfl hd (fun _=>rfl) (fun h=>h.elim) (fun h=>h) (.inl hg) (Nat.le_of_eq hs.nb) (by show f'.rest=if s.reg t 3=0 then _ else _;rw[if_pos hz,hs.2]) (fun _ _ _ _ _=>rfl) fun R ch l D _ _ h=>fun g=>by rw[hr]at g;cases g
theorem HInv.c61(I:HInv K s p fl B G)(ht:t<K.X.n)(hp:p t=.cl 61 d)(hd:d<100)(hs:Same (fl t) f')(hg:f'.g≤(fl t).g)(hg1:1≤f'.g)(hz:s.reg t 3≠0):HInv K s (upd p t (.cl 62 d)) (updP fl t f') B G:=
 I.nop ht hp _ f' (d':=d) rfl hd (fun _=>rfl) (fun h=>h.elim) (fun h=>h) (.inr ⟨fun h=>h,hg⟩) (Nat.le_of_eq hs.nb) (by show f'.cur :: f'.rest=if s.reg t 3=0 then _ else _;rw[if_neg hz,hs.1,hs.2]) (fun _ _ _ _ _=>rfl) fun R ch l D _ _ h=>⟨h.1.resolve_left hz,hg1⟩
theorem HInv.c62(I:HInv K s p fl B G)(ht:t<K.X.n)(hp:p t=.cl 62 d)(hd:d<100)(hs:Same (fl t) f')(hg:f'.g≤(fl t).g)(hg1:1≤f'.g){v:Int}(hv:v=(fl t).cur):HInv K (s.setR t 0 v) (upd p t (.cl 63 d)) (updP fl t f') B G:=
 I.set ht hp _ f' (d':=d) rfl hd (fun _=>rfl) (by omega) _ (fun h=>h.elim) (fun h=>h.elim) (.inr (.inl ⟨fun h=>h,fun e=>(by cases e),hg⟩)) (Nat.le_of_eq hs.nb) (by show f'.cur :: f'.rest=_;rw[hs.1,hs.2];rfl) rfl fun R ch l D _ _ h=>⟨by rw[rset_eq,if_neg (by decide)];exact h.1,hg1,by rw[rset_eq,if_pos rfl,hv,hs.1]⟩
theorem HInv.cnew(I:HInv K s p fl B G)(ht:t<K.X.n)(hp:p t=.cl c d){c':Nat}(hc:c=64∧c'=65∨c=71∧c'=64)(hd:d<100)(hs:Same (fl t) f')(hg:f'.g≤(fl t).g)(hg1:1≤f'.g):HInv K s (upd p t (.cl c' d)) (updP fl t f') B G:=by
 rcases hc with ⟨rfl,rfl⟩|⟨rfl,rfl⟩
 ·exact I.nop ht hp _ f' (d':=d) rfl hd (fun _=>rfl) (fun h=>h.elim) (fun h=>h) (.inr ⟨fun h=>h,hg⟩) (Nat.le_of_eq hs.nb) (by show f'.cur :: f'.rest=_;rw[hs.1,hs.2];rfl) (fun _ _ _ _ _=>rfl) fun R ch l D _ _ h=>NewV.same h hs hg1 rfl
 ·exact I.nop ht hp _ f' (d':=d) rfl hd (fun _=>rfl) (fun h=>h.elim) (fun h=>h) (.inr ⟨fun h=>h,hg⟩) (Nat.le_of_eq hs.nb) (by show f'.cur :: f'.rest=_;rw[hs.1,hs.2];rfl) (fun _ _ _ _ _=>rfl) fun R ch l D _ _ h=>NewV.same h hs hg1 rfl
theorem HInv.c65(I:HInv K s p fl B G)(ht:t<K.X.n)(hp:p t=.cl 65 d)(hd:d<100)(hs:Same (fl t) f')(hg:f'.g≤(fl t).g)(hg1:1≤f'.g)(v:Int):HInv K (s.setR t 0 v) (upd p t (.cl 66 d)) (updP fl t f') B G:=
 I.set ht hp _ f' (d':=d) rfl hd (fun _=>rfl) (by omega) _ (fun h=>h.elim) (fun h=>h.elim) (.inr (.inl ⟨fun h=>h,fun e=>(by cases e),hg⟩)) (Nat.le_of_eq hs.nb) (by show f'.cur :: f'.rest=_;rw[hs.1,hs.2];rfl) rfl fun R ch l D _ _ h=>NewV.same h hs hg1 (by rw[rset_eq,if_neg (by decide)])
theorem HInv.c67(I:HInv K s p fl B G)(ht:t<K.X.n)(hp:p t=.cl 67 d)(hd:d<100)(hs:Same (fl t) f')(hg:f'.g≤(fl t).g)(hg1:1≤f'.g):HInv K (s.setR t 1 (s.reg t 0)) (upd p t (.cl 68 d)) (updP fl t f') B G:=
 I.set ht hp _ f' (d':=d) rfl hd (fun _=>rfl) (by omega) _ (fun h=>h.elim) (fun h=>h.elim) (.inr (.inl ⟨fun h=>h,fun e=>(by cases e),hg⟩)) (Nat.le_of_eq hs.nb) (by show f'.cur :: f'.rest=_;rw[hs.1,hs.2];rfl) rfl fun R ch l D _ _ h=>⟨NewV.same h.1 hs hg1 (by rw[rset_eq,if_neg (by decide)]),by rw[rset_eq,if_neg (by decide),rset_eq,if_neg (by decide)];exact h.2,by rw[rset_eq,if_pos rfl,rset_eq,if_neg (by decide)]⟩
theorem HInv.c68(I:HInv K s p fl B G)(ht:t<K.X.n)(hp:p t=.cl 68 d)(hd:d<100)(hs:Same (fl t) f')(hg:f'.g≤(fl t).g)(hg1:1≤f'.g):HInv K (s.setR t 2 (s.reg t 3)) (upd p t (.cl 69 d)) (updP fl t f') B G:=
 I.set ht hp _ f' (d':=d) rfl hd (fun _=>rfl) (by omega) _ (fun h=>h.elim) (fun h=>h.elim) (.inr (.inl ⟨fun h=>h,fun e=>(by cases e),hg⟩)) (Nat.le_of_eq hs.nb) (by show f'.cur :: f'.rest=_;rw[hs.1,hs.2];rfl) rfl fun R ch l D _ _ h=>⟨NewV.same h.1 hs hg1 (by rw[rset_eq,if_neg (by decide)]),by rw[rset_eq,if_neg (by decide),rset_eq,if_neg (by decide)];exact h.2.1,by rw[rset_eq,if_neg (by decide),rset_eq,if_neg (by decide)];exact h.2.2,by rw[rset_eq,if_pos rfl,rset_eq,if_neg (by decide)]⟩
theorem HInv.c69f(I:HInv K s p fl B G)(ht:t<K.X.n)(hp:p t=.cl 69 d)(hd:d<100)(hs:Same (fl t) f')(hg:f'.g≤(fl t).g)(hg1:1≤f'.g){v:Int}(hv:v≠s.reg t 1):HInv K (s.setR t 1 v) (upd p t (.cl 70 d)) (updP fl t f') B G:=by
 have h10:s.reg t 1=s.reg t 0:=by
  obtain ⟨L,R,ch,C,D⟩:=I;obtain ⟨r5,bf,l,h1,h2,h3,h4⟩:=D.th t ht;rw[hp]at h4;exact h4.2.2.1
 refine I.set ht hp _ f' (d':=d) rfl hd (fun _=>rfl) (by omega) _ (fun h=>h.elim) (fun h=>h.elim) (.inr (.inl ⟨fun h=>h,fun e=>(by cases e),hg⟩)) (Nat.le_of_eq hs.nb) ?_ rfl fun R ch l D _ _ h=>fun _=>NewV.same h.1 hs hg1 (by rw[rset_eq,if_neg (by decide)])
 show (if rset (s.reg t) 1 v 0=rset (s.reg t) 1 v 1 then f'.rest else f'.cur :: f'.rest)=_
 have hne:¬rset (s.reg t) 1 v 0=rset (s.reg t) 1 v 1:=by
  show ¬s.reg t 0=v;exact fun e=>hv (by rw[h10];exact e.symm)
 rw[if_neg hne,hs.1,hs.2];rfl
theorem HInv.c70j(I:HInv K s p fl B G)(ht:t<K.X.n)(hp:p t=.cl 70 d)(hd:d<100)(hs:Same (fl t) f')(hg:f'.g=0)(hr:f'.r=false)(he:s.reg t 0=s.reg t 1):HInv K s (upd p t (.cl 72 d)) (updP fl t f') B G:=
 I.nop ht hp _ f' (d':=d) rfl hd (fun _=>rfl) (fun h=>h.elim) (fun h=>h) (.inl hg) (Nat.le_of_eq hs.nb) (by show f'.rest=if s.reg t 0=s.reg t 1 then _ else _;rw[if_pos he,hs.2]) (fun _ _ _ _ _=>rfl) fun R ch l D _ _ h=>fun g=>by rw[hr]at g;cases g
theorem HInv.c70(I:HInv K s p fl B G)(ht:t<K.X.n)(hp:p t=.cl 70 d)(hd:d<100)(hs:Same (fl t) f')(hg:f'.g≤(fl t).g)(hg1:1≤f'.g)(he:s.reg t 0≠s.reg t 1):HInv K s (upd p t (.cl 71 d)) (updP fl t f') B G:=
 I.nop ht hp _ f' (d':=d) rfl hd (fun _=>rfl) (fun h=>h.elim) (fun h=>h) (.inr ⟨fun h=>h,hg⟩) (Nat.le_of_eq hs.nb) (by show f'.cur :: f'.rest=if s.reg t 0=s.reg t 1 then _ else _;rw[if_neg he,hs.1,hs.2]) (fun _ _ _ _ _=>rfl) fun R ch l D _ _ h=>NewV.same (h he) hs hg1 rfl
theorem HInv.c81(I:HInv K s p fl B G)(ht:t<K.X.n)(hp:p t=.cl 81 d)(hd:d<100)(hd0:0<d)(hs:Same (fl t) f')(hg:f'.g=0)(hr:f'.r=false):HInv K (s.setR t 0 (s.vw t (s.reg t 5) 0)) (upd p t (.cl 82 d)) (updP fl t f') B G:=by
 obtain ⟨h1,h2,h3,h4,h5⟩:=I.top ht
 refine I.set ht hp _ f' (d':=d) rfl hd (fun _=>rfl) (by omega) _ (fun h=>⟨⟨_,_,rfl,hd0⟩,.inl ⟨rfl,by rw[h1,h3]⟩⟩) (fun h=>h.elim) (.inl hg) (Nat.le_of_eq hs.nb) (by show f'.rest=_;rw[hs.2];rfl) rfl fun R ch l D _ _ h=>fun g=>by rw[hr]at g;cases g
theorem HInv.c82z(I:HInv K s p fl B G)(ht:t<K.X.n)(hp:p t=.cl 82 d)(hd:d<100)(hs:Same (fl t) f')(hg:f'.g=0)(hz:s.reg t 0=0):HInv K s (upd p t (.cl 88 d)) (updP fl t f') B G:=
 I.nop ht hp _ f' (d':=d) rfl hd (fun _=>rfl) (fun h=>h.elim) (fun h=>h) (.inl hg) (Nat.le_of_eq hs.nb) (by show f'.rest=_;rw[hs.2];rfl) (fun _ _ _ _ _=>by show (if s.reg t 0=0 then _ else _)=_;rw[if_pos hz];rfl) fun R ch l D _ _ h=>.inl hz
theorem HInv.c82(I:HInv K s p fl B G)(ht:t<K.X.n)(hp:p t=.cl 82 d)(hd:d<100)(hd0:0<d)(hs:Same (fl t) f')(hg:f'.g=0)(hz:s.reg t 0≠0):HInv K s (upd p t (.cl 83 d)) (updP fl t f') B G:=
 I.nop ht hp _ f' (d':=d) rfl hd (fun _=>rfl) (fun h=>⟨⟨_,_,rfl,hd0⟩,by rw[hp];trivial⟩) (fun h=>h) (.inl hg) (Nat.le_of_eq hs.nb) (by show f'.rest=_;rw[hs.2];rfl) (fun _ _ _ _ _=>rfl) fun R ch l D _ _ h=>hz
theorem HInv.c83(I:HInv K s p fl B G)(ht:t<K.X.n)(hp:p t=.cl 83 d)(hd:d<100)(hd0:0<d)(hs:Same (fl t) f')(hg:f'.g=0):s.here (s.reg t 0)=true∧HInv K (s.setR t 2 (s.vw t (s.reg t 0) 1)) (upd p t (.cl 84 d)) (updP fl t f') B G:=by
 have hh:s.here (s.reg t 0)=true∧s.vw t (s.reg t 0) 1=s.val (s.reg t 0) 1:=by
  obtain ⟨L,R,ch,C,D⟩:=I;obtain ⟨r5,bf,l,h1,h2,h3,h4⟩:=D.th t ht;rw[hp]at h4;exact hold_vw D ht (by rw[hp];trivial) h4
 refine ⟨hh.1,I.set ht hp _ f' (d':=d) rfl hd (fun _=>rfl) (by omega) _ (fun h=>⟨⟨_,_,rfl,hd0⟩,.inr ⟨by omega,by rw[hp];trivial⟩⟩) (fun h=>?_) (.inl hg) (Nat.le_of_eq hs.nb) (by show f'.rest=_;rw[hs.2];rfl) rfl fun R ch l D _ _ h=>?_⟩
 ·rw[rset_eq,if_pos rfl,rset_eq,if_neg (by decide)];exact hh.2
 ·show rset (s.reg t) 2 _ 0≠0;rw[rset_eq,if_neg (by decide)];exact h
theorem HInv.c84(I:HInv K s p fl B G)(ht:t<K.X.n)(hp:p t=.cl 84 d)(hd:d<100)(hd0:0<d)(hs:Same (fl t) f')(hg:f'.g=0):HInv K (s.setR t 1 (s.reg t 0)) (upd p t (.cl 85 d)) (updP fl t f') B G:=by
 have h2:s.reg t 2=s.val (s.reg t 0) 1:=by
  obtain ⟨L,R,ch,C,D⟩:=I;exact D.h2 t ht (by rw[hp];trivial)
 refine I.set ht hp _ f' (d':=d) rfl hd (fun _=>rfl) (by omega) _ (fun h=>⟨⟨_,_,rfl,hd0⟩,.inr ⟨by omega,by rw[hp];trivial⟩⟩) (fun h=>?_) (.inl hg) (Nat.le_of_eq hs.nb) (by show f'.rest=_;rw[hs.2];rfl) rfl fun R ch l D _ _ h=>⟨?_,?_⟩
 ·rw[rset_eq,if_neg (by decide),rset_eq,if_neg (by decide)];exact h2
 ·rw[rset_eq,if_neg (by decide)];exact h
 ·rw[rset_eq,if_pos rfl,rset_eq,if_neg (by decide)]
theorem HInv.c85f(I:HInv K s p fl B G)(ht:t<K.X.n)(hp:p t=.cl 85 d)(hd:d<100)(hs:Same (fl t) f')(hg:f'.g=0){v:Int}(hv:v≠s.reg t 1):HInv K (s.setR t 1 v) (upd p t (.cl 86 d)) (updP fl t f') B G:=by
 have h10:s.reg t 1=s.reg t 0:=by
  obtain ⟨L,R,ch,C,D⟩:=I;obtain ⟨r5,bf,l,h1,h2,h3,h4⟩:=D.th t ht;rw[hp]at h4;exact h4.2
 have hne:¬rset (s.reg t) 1 v 0=rset (s.reg t) 1 v 1:=by
  rw[rset_eq,rset_eq,if_neg (by decide),if_pos rfl];exact fun e=>hv (by rw[h10];exact e.symm)
 refine I.set ht hp _ f' (d':=d) rfl hd (fun _=>rfl) (by omega) _ (fun h=>h.elim) (fun h=>h.elim) (.inl hg) (Nat.le_of_eq hs.nb) (by show f'.rest=_;rw[hs.2];rfl) ?_ fun R ch l D _ _ h=>fun e=>absurd e hne;show (if rset (s.reg t) 1 v 0=rset (s.reg t) 1 v 1 then _ else _)=_;rw[if_neg hne];rfl
theorem HInv.c86j(I:HInv K s p fl B G)(ht:t<K.X.n)(hp:p t=.cl 86 d)(hd:d<100)(hs:Same (fl t) f')(hg:f'.g=0)(he:s.reg t 0=s.reg t 1):HInv K s (upd p t (.cl 88 d)) (updP fl t f') B G:=
 I.nop ht hp _ f' (d':=d) rfl hd (fun _=>rfl) (fun h=>h.elim) (fun h=>h) (.inl hg) (Nat.le_of_eq hs.nb) (by show f'.rest=_;rw[hs.2];rfl) (fun _ _ _ _ h=>by
  show (if s.reg t 0=0 then _ else _)=if s.reg t 0=s.reg t 1 then _ else _
  rw[if_pos he,if_neg (h he).1]) fun R ch l D _ _ h=>.inr (h he)
theorem HInv.c86(I:HInv K s p fl B G)(ht:t<K.X.n)(hp:p t=.cl 86 d)(hd:d<100)(hs:Same (fl t) f')(hg:f'.g=0)(hr:f'.r=false)(he:s.reg t 0≠s.reg t 1):HInv K s (upd p t (.cl 87 d)) (updP fl t f') B G:=
 I.nop ht hp _ f' (d':=d) rfl hd (fun _=>rfl) (fun h=>h.elim) (fun h=>h) (.inl hg) (Nat.le_of_eq hs.nb) (by show f'.rest=_;rw[hs.2];rfl) (fun _ _ _ _ h=>by
  show _=if s.reg t 0=s.reg t 1 then _ else _
  rw[if_neg he];rfl) fun R ch l D _ _ h=>fun g=>by rw[hr]at g;cases g
theorem HInv.c88(I:HInv K s p fl B G)(ht:t<K.X.n)(hp:p t=.cl 88 d)(hd:d<100)(hs:Same (fl t) f')(hg:f'.g=0):HInv K s (upd p t (.cl 89 d)) (updP fl t f') B G:=
 I.nop ht hp _ f' (d':=d) rfl hd (fun _=>rfl) (fun h=>h.elim) (fun h=>h) (.inl hg) (Nat.le_of_eq hs.nb) (by show f'.rest=_;rw[hs.2];rfl) (fun _ _ _ _ h=>rfl) fun R ch l D _ _ h=>h
theorem HInv.c89(I:HInv K s p fl B G)(ht:t<K.X.n)(hp:p t=.cl 89 d)(hd:d<100)(hs:Same (fl t) f')(hg:f'.g=0):HInv K (s.setR t 3 (s.reg t 0)) (upd p t (.cl 90 d)) (updP fl t f') B G:=
 I.set ht hp _ f' (d':=d) rfl hd (fun _=>rfl) (by omega) _ (fun h=>h.elim) (fun h=>h.elim) (.inl hg) (Nat.le_of_eq hs.nb) (by show f'.rest=_;rw[hs.2];rfl) (by show (if rset (s.reg t) 3 (s.reg t 0) 3=0 then _ else _)=_;rw[rset_eq,if_pos rfl];rfl) fun R ch l D _ _ h=>by
  show rset (s.reg t) 3 (s.reg t 0) 3=0∨Own R t l (rset (s.reg t) 3 (s.reg t 0) 3);rw[rset_eq,if_pos rfl];exact h
theorem HInv.c90z(I:HInv K s p fl B G)(ht:t<K.X.n)(hp:p t=.cl 90 d)(hd:d<100)(hs:Same (fl t) f')(hg:f'.g=0)(hz:s.reg t 3=0):HInv K s (upd p t (.cl 93 d)) (updP fl t f') B G:=
 I.nop ht hp _ f' (d':=d) rfl hd (fun _=>rfl) (fun h=>h.elim) (fun h=>h) (.inl hg) (Nat.le_of_eq hs.nb) (by show f'.rest=_;rw[hs.2];rfl) (fun _ _ _ _ _=>by show _=if s.reg t 3=0 then _ else _;rw[if_pos hz];rfl) fun R ch l D _ _ h=>h
theorem HInv.c90(I:HInv K s p fl B G)(ht:t<K.X.n)(hp:p t=.cl 90 d)(hd:d<100)(hs:Same (fl t) f')(hg:f'.g=0)(hz:s.reg t 3≠0):HInv K s (upd p t (.cl 91 d)) (updP fl t f') B G:=
 I.nop ht hp _ f' (d':=d) rfl hd (fun _=>rfl) (fun h=>h.elim) (fun h=>h) (.inl hg) (Nat.le_of_eq hs.nb) (by show f'.rest=_;rw[hs.2];rfl) (fun _ _ _ _ _=>by show _=if s.reg t 3=0 then _ else _;rw[if_neg hz];rfl) fun R ch l D _ _ h=>h.resolve_left hz
theorem HInv.own3(I:HInv K s p fl B G)(ht:t<K.X.n)(hp:p t=.cl c d)(hc:c=91∨c=33):s.here (s.reg t 3)=true∧¬K.X.gr (s.reg t 3):=by
 obtain ⟨L,R,ch,C,D⟩:=I;obtain ⟨r5,bf,l,h1,h2,h3,h4⟩:=D.th t ht;rw[hp]at h4
 have hm:R (s.reg t 3)=.mine t:=by
  rcases hc with rfl|rfl
  ·exact h4.2.1
  ·exact h4.1.2.1
 exact ⟨D.hr _ (by rw[hm];simp),fun g=>by rw[sp_gr D g]at hm;cases hm⟩
theorem HInv.c91(I:HInv K s p fl B G)(ht:t<K.X.n)(hp:p t=.cl 91 d)(hd:d<100)(hs:Same (fl t) f')(hg:f'.g=0):HInv K (s.setR t 0 (s.vw t (s.reg t 3) 0)) (upd p t (.cl 92 d)) (updP fl t f') B G:=
 I.set ht hp _ f' (d':=d) rfl hd (fun _=>rfl) (by omega) _ (fun h=>h.elim) (fun h=>h.elim) (.inl hg) (Nat.le_of_eq hs.nb) (by show f'.rest=_;rw[hs.2];rfl) (by show [rset (s.reg t) 0 _ 0]=_;rw[rset_eq,if_pos rfl];rfl) fun R ch l D _ _ h=>by
  show Own R t l (rset (s.reg t) 0 _ 3);rw[rset_eq,if_neg (by decide)];exact h
theorem HInv.c92(I:HInv K s p fl B G)(ht:t<K.X.n)(hp:p t=.cl 92 d)(hd:d<100)(hs:Same (fl t) f')(hg:f'.g=0):G.pend t=[s.reg t 0]∧HInv K s (upd p t (.cl 93 d)) (updP fl t f') B {G with pend:=Qu.upd G.pend t [],marks:=G.marks++[((t:Int),s.reg t 0)]}:=by
 have I0:=I;obtain ⟨L,R,ch,C,D⟩:=I
 refine ⟨by rw[D.pend t ht,hp];rfl,I0.loc ht hp _ f' (d':=d) rfl hd (fun _=>rfl) (fun u hu=>rfl) (fun _ _=>rfl) ⟨rfl,rfl⟩ [] (List.append_nil _).symm (fun e he=>by cases he) rfl rfl (fun h=>h.elim) (fun h=>h.elim) (.inl hg) (fun _ _ _ e he=>by cases he) (by rw[hp];exact Nat.le_of_eq hs.nb) (fun u hu=>⟨rfl,Qu.upd_ne _ _ hu⟩) rfl ?_ (fun R ch D=>?_) (fun R ch D=>?_)⟩
 ·show G.rem t=f'.rest;rw[D.rem t ht,hp,hs.2];rfl
 ·show Qu.upd G.pend t [] t=[];rw[Qu.upd_same]
 ·have T:=D.th t ht;rw[hp]at T;exact T.nop fun l h1 h2 h4=>.inr h4
theorem HInv.c30z(I:HInv K s p fl B G)(ht:t<K.X.n)(hp:p t=.cl 30 d)(hd:d<100)(hs:Same (fl t) f')(hg:f'.g≤(fl t).g)(hz:s.reg t 3=0):HInv K s (upd p t (.cl 36 d)) (updP fl t f') B G:=
 I.nop ht hp _ f' (d':=d) rfl hd (fun _=>rfl) (fun h=>h.elim) (fun h=>h) (.inr ⟨fun h=>h,hg⟩) (Nat.le_of_eq hs.nb) (by show f'.rest=_;rw[hs.2];rfl) (fun _ _ _ _ _=>rfl) fun R ch l D _ _ h=>fun _=>.inl hz
theorem HInv.c30(I:HInv K s p fl B G)(ht:t<K.X.n)(hp:p t=.cl 30 d)(hd:d<100)(hs:Same (fl t) f')(hg:f'.g≤(fl t).g)(hz:s.reg t 3≠0):HInv K s (upd p t (.cl 31 d)) (updP fl t f') B G:=
 I.nop ht hp _ f' (d':=d) rfl hd (fun _=>rfl) (fun h=>h.elim) (fun h=>h) (.inr ⟨fun h=>h,hg⟩) (Nat.le_of_eq hs.nb) (by show f'.rest=_;rw[hs.2];rfl) (fun _ _ _ _ _=>rfl) fun R ch l D _ _ h=>h.resolve_left hz
theorem HInv.c31(I:HInv K s p fl B G)(ht:t<K.X.n)(hp:p t=.cl 31 d)(hd:d<100)(hs:Same (fl t) f')(hg:f'.g≤(fl t).g):HInv K (s.setR t 2 (s.vw t (s.reg t 5) (1+t/4))) (upd p t (.cl 32 d)) (updP fl t f') B G:=by
 obtain ⟨h1,h2,h3,h4,h5⟩:=I.top ht
 exact I.set ht hp _ f' (d':=d) rfl hd (fun _=>rfl) (by omega) _ (fun h=>h.elim) (fun h=>h.elim) (.inr (.inl ⟨fun h=>h,fun e=>(by cases e),hg⟩)) (Nat.le_of_eq hs.nb) (by show f'.rest=_;rw[hs.2];rfl) rfl fun R ch l D _ _ h=>⟨by rw[rset_eq,if_neg (by decide)];exact h,by rw[rset_eq,if_pos rfl,h1,h3,h4]⟩
theorem HInv.r2(I:HInv K s p fl B G)(ht:t<K.X.n)(hp:p t=.cl c d)(hc:c=42∨c=43∨c=44∨c=45∨c=34∨c=33∨c=32):s.reg t 2=K.lc t:=by
 obtain ⟨L,R,ch,C,D⟩:=I;obtain ⟨r5,bf,l,h1,h2,h3,h4⟩:=D.th t ht;rw[hp]at h4
 rcases hc with rfl|rfl|rfl|rfl|rfl|rfl|rfl
 ·exact h4.2
 ·exact h4.2.1
 ·exact h4.2.1
 ·exact h4.2.1
 ·exact h4.2.1
 ·exact h4.2.1
 ·exact h4.2
theorem HInv.c32(I:HInv K s p fl B G)(ht:t<K.X.n)(hp:p t=.cl 32 d)(hd:d<100)(hs:Same (fl t) f')(hg:f'.g≤(fl t).g):HInv K (s.setR t 0 (s.vw t (s.reg t 2) (K.lw t))) (upd p t (.cl 33 d)) (updP fl t f') B G:=by
 have h2:=I.r2 ht hp (by decide)
 exact I.set ht hp _ f' (d':=d) rfl hd (fun _=>rfl) (by omega) _ (fun h=>h.elim) (fun h=>h.elim) (.inr (.inl ⟨fun h=>h,fun e=>(by cases e),hg⟩)) (Nat.le_of_eq hs.nb) (by show f'.rest=_;rw[hs.2];rfl) rfl fun R ch l D _ _ h=>⟨by rw[rset_eq,if_neg (by decide)];exact h.1,by rw[rset_eq,if_neg (by decide)];exact h.2,by rw[rset_eq,if_pos rfl,h2]⟩
theorem HInv.c35(I:HInv K s p fl B G)(ht:t<K.X.n)(hp:p t=.cl 35 d)(hd:d<100)(hs:Same (fl t) f')(hg:f'.g≤(fl t).g):HInv K (s.setR t 3 0) (upd p t (.cl 36 d)) (updP fl t f') B G:=
 I.set ht hp _ f' (d':=d) rfl hd (fun _=>rfl) (by omega) _ (fun h=>h.elim) (fun h=>h.elim) (.inr (.inl ⟨fun h=>h,fun _=>rfl,hg⟩)) (Nat.le_of_eq hs.nb) (by show f'.rest=_;rw[hs.2];rfl) rfl fun R ch l D _ _ h=>fun _=>.inl (by rw[rset_eq,if_pos rfl])
theorem HInv.c40(I:HInv K s p fl B G)(ht:t<K.X.n)(hp:p t=.cl 40 d)(hd:d<100)(hs:Same (fl t) f')(hg:f'.g≤(fl t).g)(hg2:2≤f'.g):HInv K (s.setR t 2 (s.vw t (s.reg t 5) (1+t/4))) (upd p t (.cl 41 d)) (updP fl t f') B G:=by
 obtain ⟨h1,h2,h3,h4,h5⟩:=I.top ht;exact I.set ht hp _ f' (d':=d) rfl hd (fun _=>rfl) (by omega) _ (fun h=>h.elim) (fun h=>h.elim) (.inr (.inl ⟨fun h=>h,fun e=>(by cases e),hg⟩)) (Nat.le_of_eq hs.nb) (by show f'.rest=_;rw[hs.2];rfl) rfl fun R ch l D _ _ h=>⟨hg2,by rw[rset_eq,if_pos rfl,h1,h3,h4]⟩
theorem HInv.c41(I:HInv K s p fl B G)(ht:t<K.X.n)(hp:p t=.cl c d)(hd:d<100)(hs:Same (fl t) f')(hg:f'.g≤(fl t).g)(hg2:2≤f'.g){c':Nat}(hc:c=41∧c'=42∨c=47∧c'=41):HInv K s (upd p t (.cl c' d)) (updP fl t f') B G:=by
 rcases hc with ⟨rfl,rfl⟩|⟨rfl,rfl⟩
 ·exact I.nop ht hp _ f' (d':=d) rfl hd (fun _=>rfl) (fun h=>h.elim) (fun h=>h) (.inr ⟨fun h=>h,hg⟩) (Nat.le_of_eq hs.nb) (by show f'.rest=_;rw[hs.2];rfl) (fun _ _ _ _ _=>rfl) fun R ch l D _ _ h=>⟨hg2,h.2⟩
 ·exact I.nop ht hp _ f' (d':=d) rfl hd (fun _=>rfl) (fun h=>h.elim) (fun h=>h) (.inr ⟨fun h=>h,hg⟩) (Nat.le_of_eq hs.nb) (by show f'.rest=_;rw[hs.2];rfl) (fun _ _ _ _ _=>rfl) fun R ch l D _ _ h=>⟨hg2,h.2⟩
theorem HInv.c42(I:HInv K s p fl B G)(ht:t<K.X.n)(hp:p t=.cl 42 d)(hd:d<100)(hs:Same (fl t) f')(hg:f'.g≤(fl t).g)(hg2:2≤f'.g):HInv K (s.setR t 0 (s.vw t (s.reg t 2) (K.lw t))) (upd p t (.cl 43 d)) (updP fl t f') B G:=by
 have h2:=I.r2 ht hp (.inl rfl)
 exact I.set ht hp _ f' (d':=d) rfl hd (fun _=>rfl) (by omega) _ (fun h=>h.elim) (fun h=>h.elim) (.inr (.inl ⟨fun h=>h,fun e=>(by cases e),hg⟩)) (Nat.le_of_eq hs.nb) (by show f'.rest=_;rw[hs.2];rfl) rfl fun R ch l D _ _ h=>⟨hg2,by rw[rset_eq,if_neg (by decide)];exact h2,by rw[rset_eq,if_pos rfl,h2]⟩
theorem HInv.c43z(I:HInv K s p fl B G)(ht:t<K.X.n)(hp:p t=.cl 43 d)(hd:d<100)(hs:Same (fl t) f')(hg:f'.g≤(fl t).g)(hr:f'.r=false):HInv K s (upd p t (.cl 48 d)) (updP fl t f') B G:=
 I.nop ht hp _ f' (d':=d) rfl hd (fun _=>rfl) (fun h=>h.elim) (fun h=>h) (.inr ⟨fun h=>h,hg⟩) (Nat.le_of_eq hs.nb) (by show f'.rest=_;rw[hs.2];rfl) (fun _ _ _ _ _=>rfl) fun R ch l D _ _ h=>fun g=>by rw[hr]at g;cases g
theorem HInv.c43(I:HInv K s p fl B G)(ht:t<K.X.n)(hp:p t=.cl 43 d)(hd:d<100)(hs:Same (fl t) f')(hg:f'.g≤(fl t).g)(hg2:2≤f'.g)(hz:s.reg t 0≠0):HInv K s (upd p t (.cl 44 d)) (updP fl t f') B G:=
 I.nop ht hp _ f' (d':=d) rfl hd (fun _=>rfl) (fun h=>h.elim) (fun h=>h) (.inr ⟨fun h=>h,hg⟩) (Nat.le_of_eq hs.nb) (by show f'.rest=_;rw[hs.2];rfl) (fun _ _ _ _ _=>rfl) fun R ch l D _ _ h=>⟨hg2,h.2.1,h.2.2,hz⟩
theorem HInv.c44(I:HInv K s p fl B G)(ht:t<K.X.n)(hp:p t=.cl 44 d)(hd:d<100)(hs:Same (fl t) f')(hg:f'.g≤(fl t).g)(hg2:2≤f'.g):s.here (s.reg t 0)=true∧HInv K (s.setR t 1 (s.vw t (s.reg t 0) K.nx)) (upd p t (.cl 45 d)) (updP fl t f') B G:=by
 have hh:s.here (s.reg t 0)=true:=by
  obtain ⟨L,R,ch,C,D⟩:=I;obtain ⟨r5,bf,l,h1,h2,h3,h4⟩:=D.th t ht;rw[hp]at h4;obtain ⟨a2,a3,a4,a5⟩:=h4
  cases l with
  |nil=>exact absurd (a4.trans h1) a5
  |cons y l=>exact D.hr _ (by rw[a4.trans h1.1,(h2 y (by simp)).2];simp)
 refine ⟨hh,I.set ht hp _ f' (d':=d) rfl hd (fun _=>rfl) (by omega) _ (fun h=>h.elim) (fun h=>h.elim) (.inr (.inl ⟨fun h=>h,fun e=>(by cases e),hg⟩)) (Nat.le_of_eq hs.nb) (by show f'.rest=_;rw[hs.2];rfl) rfl fun R ch l D _ _ h=>?_⟩;obtain ⟨a2,a3,a4,a5⟩:=h
 exact ⟨hg2,by rw[rset_eq,if_neg (by decide)];exact a3,by rw[rset_eq,if_neg (by decide)];exact a4,by rw[rset_eq,if_neg (by decide)];exact a5,by rw[rset_eq,if_pos rfl,rset_eq,if_neg (by decide)]⟩
end Qp
end
section
namespace Qp
open Qs Qg
open Qk (Ro ChL Own)
open Qu (Gh sumN)
variable {K:Cp}{s s':A}{p:Nat→Pos}{fl:Nat→Fp}{R R':Int→Ro}{t u:Nat}{P q:Pos}{f f':Fp}{L:List Nat}{B:Int}{c d d':Nat}{ch ch':List Int}{G G':Gh}
theorem not_held(D:CG K s p fl R ch G){x:Int}(hx:R x=.sp):∀r,r<K.X.n→hold (p r)→s.reg r 0≠x:=fun r hr h e=>by
 by_cases h0:s.reg r 0=0
 ·rw[←e,h0,D.z]at hx;cases hx
 ·have:=D.ho r hr h h0;rw[e,hx]at this
  rcases this with g|⟨w,g⟩ <;> cases g
theorem HInv.push(I:HInv K s p fl B G)(ht:t<K.X.n)(hp:p t=.cl c d){c':Nat}(hc':¬hold (.cl c' d))(hd:d<100)(hg:f'.g=0∨f'.g≤(fl t).g)(e:En)(hne:¬K.X.gr e.a)
  (hnb:nbOf f' (.cl c' d)≤nbOf (fl t) (.cl c d)) (hr:remOf f' (s.reg t) (.cl c' d)=remOf (fl t) (s.reg t) (.cl c d)) (hpd:∀vw,pendOf (s.reg t) vw (.cl c' d)=[]) (hpd0:∀vw,pendOf (s.reg t) vw (.cl c d)=[])
  (T:∀R ch l,CG K s p fl R ch G→ChL (s.vw t) K.nx (s.vw t (K.lc t) (K.lw t)) l→(∀x∈l,x≠0∧R x=.mine t)→l.Nodup→K.Hnd (s.reg t) (s.vw t) R t l (fl t) (.cl c d)→
   ((e.a=K.lc t∧e.w=K.lw t)∨R e.a=.mine t)∧(e.w=1→∀r,r<K.X.n→hold (p r)→s.reg r 0≠e.a)∧∃l',ChL ((s.setB t (s.buf t++[e])).vw t) K.nx ((s.setB t (s.buf t++[e])).vw t (K.lc t) (K.lw t)) l'∧(∀x∈l',x≠0∧R x=.mine t)∧l'.Nodup∧K.Hnd (s.reg t) ((s.setB t (s.buf t++[e])).vw t) R t l' f' (.cl c' d)) :
  HInv K (s.setB t (s.buf t++[e])) (upd p t (.cl c' d)) (updP fl t f') B G:=by
 refine I.loc ht hp _ f' (d':=d) rfl hd (fun _=>rfl) (fun u hu=>rfl) (fun u hu=>setB_ne _ _ hu) ⟨rfl,rfl⟩ [e] (setB_buf _ _ _) (fun y hy=>by rw[List.mem_singleton.1 hy];exact hne) rfl rfl (fun h=>absurd h hc') (fun h=>absurd (hold2_hold h) hc') (hg.imp id fun g=>.inl ⟨hc',.inr rfl,g⟩) (fun R ch D y hy hw r hr hne h=>?_) (by rw[hp];exact hnb) (fun _ _=>⟨rfl,rfl⟩) rfl ?_ (fun R ch D=>?_) (fun R ch D=>?_)
 ·rw[List.mem_singleton.1 hy]at hw ⊢;have Tt:=D.th t ht;rw[hp]at Tt;obtain ⟨r5,bf,l,h1,h2,h3,h4⟩:=Tt;exact (T R ch l D h1 h2 h3 h4).2.1 hw r hr h
 ·obtain ⟨L,R,ch,C,D⟩:=I;rw[D.rem t ht,hp,←hr];rfl
 ·rw[D.pend t ht,hp,hpd0];exact (hpd _).symm
 ·have Tt:=D.th t ht;rw[hp]at Tt;obtain ⟨r5,bf,l,h1,h2,h3,h4⟩:=Tt;obtain ⟨a1,_,l',a2,a3,a4,a5⟩:=T R ch l D h1 h2 h3 h4;refine ⟨r5,fun y hy=>?_,l',a2,a3,a4,a5⟩;rw[setB_buf]at hy
  rcases List.mem_append.1 hy with g|g
  ·exact bf y g
  ·rw[List.mem_singleton.1 g];exact .inr a1
theorem HInv.own3n(I:HInv K s p fl B G)(ht:t<K.X.n)(hp:p t=.cl c d)(hc:c=63∨c=66):s.here (s.reg t 3)=true∧¬K.X.gr (s.reg t 3):=by
 obtain ⟨L,R,ch,C,D⟩:=I;obtain ⟨r5,bf,l,h1,h2,h3,h4⟩:=D.th t ht;rw[hp]at h4
 have hm:R (s.reg t 3)=.mine t:=by
  rcases hc with rfl|rfl
  ·exact h4.1.2.1
  ·exact h4.1.2.1
 exact ⟨D.hr _ (by rw[hm];simp),fun g=>by rw[sp_gr D g]at hm;cases hm⟩
theorem HInv.c63(I:HInv K s p fl B G)(ht:t<K.X.n)(hp:p t=.cl 63 d)(hd:d<100)(hs:Same (fl t) f')(hg:f'.g≤(fl t).g)(hg1:1≤f'.g):HInv K (s.setB t (s.buf t++[⟨s.reg t 3,0,s.reg t 0⟩])) (upd p t (.cl 64 d)) (updP fl t f') B G:=by
 refine I.push (c':=64) ht hp (fun h=>h) hd (.inr hg) _ (I.own3n ht hp (by decide)).2 (Nat.le_of_eq hs.nb) (by show f'.cur :: f'.rest=_;rw[hs.1,hs.2];rfl) (fun _=>rfl) (fun _=>rfl) fun R ch l D h1 h2 h3 h4=>?_;obtain ⟨a2,a3,a4⟩:=h4
 have hl:s.reg t 3≠K.lc t:=fun e=>by have:=a2.2.1;rw[e,sp_lc D ht]at this;cases this
 refine ⟨.inr a2.2.1,fun e=>(by cases e),l,?_,h2,h3,a2,hg1,?_⟩
 ·rw[push_vw,if_neg (fun g=>hl g.1)]
  exact h1.keep fun x hx=>by rw[push_vw,if_neg (fun g=>by have:=K.n0;have:=g.2;simp only at this;omega)]
 ·rw[push_vw,if_pos ⟨rfl,rfl⟩,hs.1];exact a4
theorem HInv.c66(I:HInv K s p fl B G)(ht:t<K.X.n)(hp:p t=.cl 66 d)(hd:d<100)(hs:Same (fl t) f')(hg:f'.g≤(fl t).g)(hg1:1≤f'.g):HInv K (s.setB t (s.buf t++[⟨s.reg t 3,1,s.reg t 0⟩])) (upd p t (.cl 67 d)) (updP fl t f') B G:=by
 refine I.push (c':=67) ht hp (fun h=>h) hd (.inr hg) _ (I.own3n ht hp (by decide)).2 (Nat.le_of_eq hs.nb) (by show f'.cur :: f'.rest=_;rw[hs.1,hs.2];rfl) (fun _=>rfl) (fun _=>rfl) fun R ch l D h1 h2 h3 h4=>?_;have h4':NewV (s.reg t) (s.vw t) R t l (fl t):=h4;obtain ⟨a2,a3,a4⟩:=h4'
 have hl:s.reg t 3≠K.lc t:=fun e=>by have:=a2.2.1;rw[e,sp_lc D ht]at this;cases this
 refine ⟨.inr a2.2.1,fun _ r hr h=>D.g1 t ht a3 a2.2.1 r hr h,l,?_,h2,h3,⟨a2,hg1,?_⟩,?_⟩
 ·rw[push_vw,if_neg (fun g=>hl g.1)]
  exact h1.keep fun x hx=>by rw[push_vw,if_neg (fun g=>by have:=K.n0;have:=g.2;simp only at this;omega)]
 ·rw[push_vw,if_neg (fun g=>by have:=g.2;simp at this),hs.1];exact a4
 ·rw[push_vw,if_pos ⟨rfl,rfl⟩]
theorem HInv.c33(I:HInv K s p fl B G)(ht:t<K.X.n)(hp:p t=.cl 33 d)(hd:d<100)(hs:Same (fl t) f')(hg:f'.g≤(fl t).g):HInv K (s.setB t (s.buf t++[⟨s.reg t 3,K.nx,s.reg t 0⟩])) (upd p t (.cl 34 d)) (updP fl t f') B G:=by
 refine I.push (c':=34) ht hp (fun h=>h) hd (.inr hg) _ (I.own3 ht hp (by decide)).2 (Nat.le_of_eq hs.nb) (by show f'.rest=_;rw[hs.2];rfl) (fun _=>rfl) (fun _=>rfl) fun R ch l D h1 h2 h3 h4=>?_;obtain ⟨a1,a2,a3⟩:=h4
 have hl:s.reg t 3≠K.lc t:=fun e=>by have:=a1.2.1;rw[e,sp_lc D ht]at this;cases this
 refine ⟨.inr a1.2.1,fun e=>by have:=K.n0;simp only at e;omega,l,?_,h2,h3,a1,a2,?_⟩
 ·rw[push_vw,if_neg (fun g=>hl g.1)]
  exact h1.keep fun x hx=>by rw[push_vw,if_neg (fun g=>a1.2.2 (by rw[show s.reg t 3=x from g.1];exact hx))]
 ·rw[push_vw,if_pos ⟨rfl,rfl⟩,push_vw,if_neg (fun g=>hl g.1)];exact a3
theorem HInv.c34(I:HInv K s p fl B G)(ht:t<K.X.n)(hp:p t=.cl 34 d)(hd:d<100)(hs:Same (fl t) f')(hg:f'.g=0):HInv K (s.setB t (s.buf t++[⟨K.lc t,K.lw t,s.reg t 3⟩])) (upd p t (.cl 35 d)) (updP fl t f') B G:=by
 refine I.push (c':=35) ht hp (fun h=>h) hd (.inl hg) _ (K.lg t) (Nat.le_of_eq hs.nb) (by show f'.rest=_;rw[hs.2];rfl) (fun _=>rfl) (fun _=>rfl) fun R ch l D h1 h2 h3 h4=>?_;obtain ⟨a1,a2,a3⟩:=h4
 have hl:K.lc t≠s.reg t 3:=fun e=>by have:=a1.2.1;rw[←e,sp_lc D ht]at this;cases this
 have hll:∀x∈l,K.lc t≠x:=fun x hx e=>by have:=(h2 x hx).2;rw[←e,sp_lc D ht]at this;cases this
 refine ⟨.inl ⟨rfl,rfl⟩,fun _=>not_held D (sp_lc D ht),s.reg t 3 :: l,⟨?_,?_⟩,fun x hx=>?_,List.nodup_cons.2 ⟨a1.2.2,h3⟩,trivial⟩
 ·rw[push_vw,if_pos ⟨rfl,rfl⟩]
 ·rw[push_vw,if_neg (fun g=>hl g.1),a3]
  exact h1.keep fun x hx=>by rw[push_vw,if_neg (fun g=>hll x hx g.1)]
 ·rcases List.mem_cons.1 hx with rfl|hx
  ·exact ⟨a1.1,a1.2.1⟩
  ·exact h2 x hx
theorem HInv.c45(I:HInv K s p fl B G)(ht:t<K.X.n)(hp:p t=.cl 45 d)(hd:d<100)(hs:Same (fl t) f')(hg:f'.g≤(fl t).g)(hg2:2≤f'.g):HInv K (s.setB t (s.buf t++[⟨K.lc t,K.lw t,s.reg t 1⟩])) (upd p t (.cl 46 d)) (updP fl t f') B G:=by
 refine I.push (c':=46) ht hp (fun h=>h) hd (.inr hg) _ (K.lg t) (Nat.le_of_eq hs.nb) (by show f'.rest=_;rw[hs.2];rfl) (fun _=>rfl) (fun _=>rfl) fun R ch l D h1 h2 h3 h4=>?_;obtain ⟨a2,a3,a4,a5,a6⟩:=h4
 cases l with
 |nil=>exact absurd (a4.trans h1) a5
 |cons y l=>
  have hy:s.reg t 0=y:=a4.trans h1.1
  have hll:∀x∈y :: l,K.lc t≠x:=fun x hx e=>by have:=(h2 x hx).2;rw[←e,sp_lc D ht]at this;cases this
  obtain ⟨n1,n2⟩:=List.nodup_cons.1 h3;refine ⟨.inl ⟨rfl,rfl⟩,fun _=>not_held D (sp_lc D ht),l,?_,fun x hx=>h2 x (List.mem_cons_of_mem _ hx),n2,hg2,a3,⟨a5,by rw[hy];exact (h2 y (by simp)).2,by rw[hy];exact n1⟩⟩;rw[push_vw,if_pos ⟨rfl,rfl⟩];show ChL _ _ (s.reg t 1) l;rw[a6,hy]
  exact h1.2.keep fun x hx=>by rw[push_vw,if_neg (fun g=>hll x (List.mem_cons_of_mem _ hx) g.1)]
theorem mem_no(D:CG K s p fl R ch G){x:Int}(h:x∈ch):R x≠.no:=by rw[(D.cp x).2 h];simp
theorem HInv.c60(I:HInv K s p fl B G)(ht:t<K.X.n)(hp:p t=.cl 60 d)(hd:d<100)(hs:Same (fl t) f')(hg:f'.g=1){na:Int}(hna:s.here na=false)(hn0:na≠0):HInv K ((s.give na).setR t 3 na) (upd p t (.cl 61 d)) (updP fl t f') B G:=by
 obtain ⟨L,R,ch,C,D⟩:=I
 have hRn:R na=.no:=by
  refine Classical.byContradiction fun h=>?_;have:=D.hr na h;rw[hna]at this;cases this
 have hne:∀x,R x≠.no→x≠na:=fun x h e=>h (by rw[e];exact hRn);have hval:∀x w,x≠na→((s.give na).setR t 3 na).val x w=s.val x w:=fun x w h=>if_neg h;have hR':∀x,x≠na→(fun x=>if x=na then Ro.mine t else R x) x=R x:=fun x h=>if_neg h;have htop:K.top≠na:=hne _ (by rw[sp_top D];simp)
 have hchn:∀x∈ch,x≠na:=fun x hx=>hne x (mem_no D hx);obtain ⟨r5,bf,l,h1,h2,h3,h4⟩:=D.th t ht;have hll:∀x∈l,x≠na:=fun x hx=>hne x (by rw[(h2 x hx).2];simp)
 have hvw:∀x w,x≠na→((s.give na).setR t 3 na).vw t x w=s.vw t x w:=fun x w h=>by
  unfold A.vw;rw[hval x w h];rfl
 have hhn:∀r,r<K.X.n→hold (p r)→s.reg r 0≠na:=fun r hr h e=>by
  by_cases h0:s.reg r 0=0
  ·exact hn0 (e.symm.trans h0)
  ·have:=D.ho r hr h h0;rw[e,hRn]at this
   rcases this with g|⟨w,g⟩ <;> cases g
 refine HInv.own (R':=fun x=>if x=na then .mine t else R x) (ch':=ch) C D ht hp _ f' (d':=d) rfl hd (fun _=>rfl) (fun u hu=>setR_ne _ _ _ hu) (fun _ _=>rfl) (setR_off _ _ _ _ (by omega)) (setR_off _ _ _ _ (by omega)) [] (by rw[List.append_nil];rfl) (fun e he=>by cases he) (fun x w h=>hval x w (hne x (by rw[sp_gr D h];simp)))
  (fun x u hu=>?_) (fun u x w hu hx=>hval x w (hne x (by rw[hx];simp))) (fun u hu _=>hval _ _ (hne _ (by rw[sp_lc D hu];simp))) ?_ (fun x hx=>?_) (fun x hx=>?_) (fun w _=>hval _ w htop) ?_ D.cn (fun x=>?_) ⟨?_,fun e he=>?_,l,?_,fun x hx=>?_,h3,?_,?_⟩ (fun r hr2 hne2 h h0=>?_) (fun h=>h.elim) (fun h=>h.elim) (fun _ _=>⟨fun h=>h,fun r hr hne h=>?_⟩) (fun g=>by omega) (fun e he hw r hr hne h=>D.bw t ht e he hw r hr h) ?_ (fun _ _=>⟨rfl,rfl⟩) ?_ ?_ ?_
 ·by_cases e:x=na
  ·subst e;show (if x=x then Ro.mine t else R x)=.mine u↔R x=.mine u;rw[if_pos rfl,hRn];exact ⟨fun g=>(by cases g;exact absurd rfl hu),fun g=>(by cases g)⟩
  ·show (if x=na then Ro.mine t else R x)=.mine u↔_;rw[if_neg e]
 ·show (if (0:Int)=na then Ro.mine t else R 0)=.no;rw[if_neg (fun e=>hn0 e.symm)];exact D.z
 ·show (if x=na then true else s.here x)=true
  by_cases e:x=na
  ·rw[if_pos e]
  ·rw[if_neg e];exact D.hr x (by rw[←hR' x e];exact hx)
 ·show (if x=na then Ro.mine t else R x)=.sp;have:=D.sp x hx;rw[if_neg (hne x (by rw[this];simp))];exact this
 ·rw[hval _ 0 htop];exact D.cl.keep fun x hx=>hval x 1 (hchn x hx)
 ·show (if x=na then Ro.mine t else R x)=.pub↔x∈ch
  by_cases e:x=na
  ·rw[if_pos e];exact ⟨fun g=>(by cases g),fun g=>absurd e (hchn x g)⟩
  ·rw[if_neg e];exact D.cp x
 ·rw[setR_off _ _ _ _ (by omega)];exact r5
 ·rcases bf e he with g|g|g
  ·exact .inl g
  ·exact .inr (.inl g)
  ·refine .inr (.inr ?_);show (if e.a=na then Ro.mine t else R e.a)=.mine t;rw[if_neg (hne _ (by rw[g];simp))];exact g
 ·rw[hvw _ _ (hne _ (by rw[sp_lc D ht];simp))];exact h1.keep fun x hx=>hvw x _ (hll x hx)
 ·refine ⟨(h2 x hx).1,?_⟩;show (if x=na then Ro.mine t else R x)=.mine t;rw[if_neg (hll x hx)];exact (h2 x hx).2
 ·right;rw[setR_at];exact ⟨hn0,if_pos rfl,fun h=>hll na h rfl⟩
 ·omega
 ·have g1:=D.ho r hr2 h h0;have hx:s.reg r 0≠na:=hhn r hr2 h;rw[hval _ 1 hx];refine ⟨?_,rfl⟩;show (if s.reg r 0=na then Ro.mine t else R (s.reg r 0))=.pub∨∃w,(if s.reg r 0=na then Ro.mine t else R (s.reg r 0))=.mine w;rw[if_neg hx];exact g1
 ·rw[setR_at];exact hhn r hr h
 ·obtain ⟨Ls,k1,k2,k3⟩:=D.cells;refine ⟨na :: Ls,List.nodup_cons.2 ⟨fun h=>?_,k1⟩,fun x=>?_,?_⟩
  ·rw[(k2 na).2 h]at hna;cases hna
  ·show (if x=na then true else s.here x)=true↔x∈na :: Ls
   by_cases e:x=na
   ·rw[if_pos e,e];simp
   ·rw[if_neg e,k2 x];simp[e]
  ·have hn:=nb_sum (nb:=fun u=>nbOf (fl u) (p u)) (a:=nbOf f' (.cl 61 d)) ht
   have h60:nbOf (fl t) (p t)=(fl t).rest.length+1:=by rw[hp];rfl
   have h61:nbOf f' (.cl 61 d)=f'.rest.length:=rfl;rw[hs.nb]at h61;rw[List.length_cons];omega
 ·show G.rem t=if ((s.give na).setR t 3 na).reg t 3=0 then f'.rest else f'.cur :: f'.rest
  rw[setR_at,if_neg hn0,D.rem t ht,hp,hs.1,hs.2];rfl
 ·show G.pend t=[];rw[D.pend t ht,hp];rfl
 ·rw[D.chv];exact List.map_congr_left fun x hx=>(hval x 0 (hchn x hx)).symm
theorem HInv.c46(I:HInv K s p fl B G)(ht:t<K.X.n)(hp:p t=.cl 46 d)(hd:d<100)(hs:Same (fl t) f')(hg:f'.g≤(fl t).g)(hg2:2≤f'.g)(hb:s.buf t=[]):s.here (s.reg t 0)=true∧HInv K (s.free (s.reg t 0)) (upd p t (.cl 47 d)) (updP fl t f') B G:=by
 obtain ⟨L,R,ch,C,D⟩:=I;obtain ⟨r5,bf,l,h1,h2,h3,h4⟩:=D.th t ht;rw[hp]at h4;obtain ⟨a,ha⟩:∃a,a=s.reg t 0:=⟨_,rfl⟩;obtain ⟨b2,b3,t1⟩:=h4;rw[←ha]at t1 ⊢;have hRa:R a=.mine t:=t1.2.1;have t2:∀r,r<K.X.n→hold (p r)→s.reg r 0≠a:=fun r hr h e=>D.g2 t ht b2 r hr h (by rw[e];exact hRa)
 have hval:∀x w,x≠a→(s.free a).val x w=s.val x w:=fun x w h=>if_neg h;have hne:∀x,R x≠.mine t→x≠a:=fun x h e=>h (by rw[e];exact hRa);have hll:∀x∈l,x≠a:=fun x hx e=>t1.2.2 (e ▸ hx);have hchn:∀x∈ch,x≠a:=fun x hx=>hne x (by rw[(D.cp x).2 hx];simp)
 have hvw:∀x w,x≠a→(s.free a).vw t x w=s.vw t x w:=fun x w h=>by
  unfold A.vw;rw[hval x w h];rfl
 have hha:s.here a=true:=D.hr a (by rw[hRa];simp)
 refine ⟨hha,HInv.own (R':=fun x=>if x=a then .no else R x) (ch':=ch) C D ht hp _ f' (d':=d) rfl hd (fun _=>rfl) (fun u hu=>rfl) (fun _ _=>rfl) rfl rfl [] (by rw[List.append_nil];rfl) (fun e he=>by cases he) (fun x w h=>hval x w (hne x (by rw[sp_gr D h];simp)))
  (fun x u hu=>?_) (fun u x w hu hx=>hval x w (hne x (by rw[hx];simp;exact hu))) (fun u hu _=>hval _ _ (hne _ (by rw[sp_lc D hu];simp))) ?_ (fun x hx=>?_) (fun x hx=>?_) (fun w _=>hval _ w (hne _ (by rw[sp_top D];simp))) ?_ D.cn (fun x=>?_) ⟨r5,fun e he=>?_,l,?_,fun x hx=>?_,h3,hg2,b3⟩ (fun r hr2 hne2 h h0=>?_) (fun h=>h.elim) (fun h=>h.elim) (fun g g2=>⟨fun h=>h,fun r hr2 hne2 h=>?_⟩) (fun g=>⟨fun h=>h,fun r hr2 hne2 h=>?_⟩) (fun e he=>?_) ?_ (fun _ _=>⟨rfl,rfl⟩) ?_ ?_ ?_⟩
 ·show (if x=a then Ro.no else R x)=.mine u↔R x=.mine u
  by_cases e:x=a
  ·rw[if_pos e,e,hRa];exact ⟨fun g=>(by cases g),fun g=>(by cases g;exact absurd rfl hu)⟩
  ·rw[if_neg e]
 ·show (if (0:Int)=a then Ro.no else R 0)=.no
  split
  ·rfl
  ·exact D.z
 ·have hx':(if x=a then Ro.no else R x)≠.no:=hx;show (if x=a then false else s.here x)=true
  by_cases e:x=a
  ·rw[if_pos e]at hx';exact absurd rfl hx'
  ·rw[if_neg e]at hx' ⊢;exact D.hr x hx'
 ·show (if x=a then Ro.no else R x)=.sp;have:=D.sp x hx;rw[if_neg (hne x (by rw[this];simp))];exact this
 ·rw[hval _ 0 (hne _ (by rw[sp_top D];simp))];exact D.cl.keep fun x hx=>hval x 1 (hchn x hx)
 ·show (if x=a then Ro.no else R x)=.pub↔x∈ch
  by_cases e:x=a
  ·rw[if_pos e];exact ⟨fun g=>(by cases g),fun g=>absurd e (hchn x g)⟩
  ·rw[if_neg e];exact D.cp x
 ·have he':e∈s.buf t:=he;rw[hb]at he';cases he'
 ·rw[hvw _ _ (hne _ (by rw[sp_lc D ht];simp))];exact h1.keep fun x hx=>hvw x _ (hll x hx)
 ·refine ⟨(h2 x hx).1,?_⟩;show (if x=a then Ro.no else R x)=.mine t;rw[if_neg (hll x hx)];exact (h2 x hx).2
 ·have g1:=D.ho r hr2 h h0;have hx:=t2 r hr2 h;rw[hval _ 1 hx];refine ⟨?_,rfl⟩;show (if s.reg r 0=a then Ro.no else R (s.reg r 0))=.pub∨∃w,(if s.reg r 0=a then Ro.no else R (s.reg r 0))=.mine w;rw[if_neg hx];exact g1
 ·have g2':(if s.reg t 3=a then Ro.no else R (s.reg t 3))=.mine t:=g2
  by_cases e:s.reg t 3=a
  ·rw[if_pos e]at g2';cases g2'
  ·rw[if_neg e]at g2';exact D.g1 t ht (by omega) g2' r hr2 h
 ·show (if s.reg r 0=a then Ro.no else R (s.reg r 0))≠.mine t;rw[if_neg (t2 r hr2 h)];exact D.g2 t ht (by omega) r hr2 h
 ·have he':e∈s.buf t:=he;rw[hb]at he';cases he'
 ·obtain ⟨Ls,k1,k2,k3⟩:=D.cells;have ham:a∈Ls:=(k2 a).1 hha;refine ⟨Ls.erase a,k1.erase a,fun x=>?_,?_⟩
  ·show (if x=a then false else s.here x)=true↔x∈Ls.erase a;rw[k1.mem_erase_iff]
   by_cases e:x=a
   ·rw[if_pos e];simp[e]
   ·rw[if_neg e,k2 x];simp[e]
  ·have hn:=nb_sum (nb:=fun u=>nbOf (fl u) (p u)) (a:=nbOf f' (.cl 47 d)) ht
   have h60:nbOf (fl t) (p t)=(fl t).rest.length:=by rw[hp];rfl
   have h61:nbOf f' (.cl 47 d)=f'.rest.length:=rfl;rw[hs.nb]at h61;have:=List.length_erase_of_mem ham;omega
 ·show G.rem t=f'.rest;rw[D.rem t ht,hp,hs.2];rfl
 ·show G.pend t=[];rw[D.pend t ht,hp];rfl
 ·rw[D.chv];exact List.map_congr_left fun x hx=>(hval x 0 (hchn x hx)).symm
end Qp
end
section
namespace Qp
open Qs Qg
open Qk (Ro ChL Own)
open Qu (Gh sumN)
variable {K:Cp}{s s':A}{p:Nat→Pos}{fl:Nat→Fp}{R R':Int→Ro}{t u:Nat}{P q:Pos}{f f':Fp}{L:List Nat}{B:Int}{c d d':Nat}{ch ch':List Int}{G G':Gh}
theorem cells_set(h:Cells K s fun u=>nbOf (fl u) (p u))(hh:s'.here=s.here)(hn:nbOf f' q=nbOf (fl t) (p t)):Cells K s' fun u=>if u=t then nbOf f' q else nbOf (fl u) (p u):=
 cells_same h hh fun u _=>by
  show (if u=t then nbOf f' q else nbOf (fl u) (p u))=nbOf (fl u) (p u)
  by_cases e:u=t
  ·rw[if_pos e,hn,e]
  ·rw[if_neg e]
theorem HInv.c69s(I:HInv K s p fl B G)(ht:t<K.X.n)(hp:p t=.cl 69 d)(hd:d<100)(hs:Same (fl t) f')(hg:f'.g≤1)(hb:s.buf t=[])(he:s.val K.top 0=s.reg t 1) :
  G.rem t=(fl t).cur :: (fl t).rest∧HInv K ((s.put ⟨s.reg t 5,0,s.reg t 2⟩).setR t 1 (s.val (s.reg t 5) 0)) (upd p t (.cl 70 d)) (updP fl t f') B {G with rem:=Qu.upd G.rem t (fl t).rest,chv:=(fl t).cur :: G.chv}:=by
 obtain ⟨L,R,ch,C,D⟩:=I;obtain ⟨r5,bf,l,h1,h2,h3,h4⟩:=D.th t ht;rw[hp]at h4;obtain ⟨⟨a2,_,a4⟩,a5,a6,a7⟩:=h4;refine ⟨by rw[D.rem t ht,hp];rfl,?_⟩;rw[r5,a7];obtain ⟨nw,hnw⟩:∃nw,nw=s.reg t 3:=⟨_,rfl⟩;obtain ⟨od,hod⟩:∃od,od=s.val K.top 0:=⟨_,rfl⟩;rw[←hnw]at a2 a4 a5 ⊢;rw[←hod]at he ⊢
 have hval:∀x w,x≠K.top∨w≠0→((s.put ⟨K.top,0,nw⟩).setR t 1 od).val x w=s.val x w:=fun x w h=>if_neg fun g=>h.elim (fun e=>e g.1) (fun e=>e g.2);have hv0:((s.put ⟨K.top,0,nw⟩).setR t 1 od).val K.top 0=nw:=if_pos ⟨rfl,rfl⟩;have hnt:∀x,R x≠.sp→x≠K.top:=fun x h e=>h (by rw[e];exact sp_top D)
 have hnwt:nw≠K.top:=hnt nw (by rw[a2.2.1];simp)
 have hchn:∀x∈ch,x≠nw:=fun x hx e=>by have:=(D.cp x).2 hx;rw[e,a2.2.1]at this;cases this
 have hcht:∀x∈ch,x≠K.top:=fun x hx=>hnt x (by rw[(D.cp x).2 hx];simp);have hR1:∀x,x≠nw→(fun x=>if x=nw then Ro.pub else R x) x=R x:=fun x h=>if_neg h;have hRn:(fun x=>if x=nw then Ro.pub else R x) nw=.pub:=if_pos rfl;generalize (fun x=>if x=nw then Ro.pub else R x)=R' at hR1 hRn
 have hll:∀x∈l,R' x=R x:=fun x hx=>hR1 x (fun e=>a2.2.2 (e ▸ hx));have hne:∀x,R x≠.mine t→x≠nw:=fun x h e=>h (by rw[e];exact a2.2.1)
 have hvw:∀x w,x≠K.top∨w≠0→((s.put ⟨K.top,0,nw⟩).setR t 1 od).vw t x w=s.vw t x w:=fun x w h=>by
  unfold A.vw;rw[hval x w h];rfl
 have hv1:s.val nw 1=od:=by
  have:s.vw t nw 1=s.val nw 1:=vw_nil hb;rw[←this,a5,he,a6]
 have hvn0:s.val nw 0=(fl t).cur:=by
  have:s.vw t nw 0=s.val nw 0:=vw_nil hb;rw[←this];exact a4
 refine HInv.own (R':=R') (ch':=nw :: ch) C D ht hp _ f' (d':=d) rfl hd (fun _=>rfl) (fun u hu=>setR_ne _ _ _ hu) (fun _ _=>rfl) (setR_off _ _ _ _ (by omega)) (setR_off _ _ _ _ (by omega)) [] (by rw[List.append_nil];rfl) (fun e he=>by cases he) (fun x w h=>hval x w (.inl fun e=>K.tg (e ▸ h)))
  (fun x u hu=>?_) (fun u x w hu hx=>hval x w (.inl (hnt x (by rw[hx];simp)))) (fun u hu _=>hval _ _ (.inl (K.lt u))) ?_ (fun x hx=>?_) (fun x hx=>by rw[hR1 x (hne x (by rw[D.sp x hx];simp))];exact D.sp x hx) (fun w hw=>hval _ w (.inr hw)) ⟨hv0,?_⟩ (List.nodup_cons.2 ⟨fun h=>hchn nw h rfl,D.cn⟩) (fun x=>?_) ⟨?_,fun e he=>?_,l,?_,fun x hx=>?_,h3,?_⟩ (fun r hr2 hne2 h h0=>?_) (fun h=>h.elim) (fun h=>h.elim) (fun _ g=>?_) (fun g=>by omega) (fun e he=>?_) (cells_set D.cells rfl (by rw[hp];exact hs.nb)) (fun u hu=>⟨Qu.upd_ne _ _ hu,rfl⟩) ?_ ?_ ?_
 ·by_cases e:x=nw
  ·rw[e,hRn,a2.2.1];exact ⟨fun g=>(by cases g),fun g=>(by cases g;exact absurd rfl hu)⟩
  ·rw[hR1 x e]
 ·rw[hR1 0 (hne 0 (by rw[D.z];simp))];exact D.z
 ·refine D.hr x fun g=>?_
  by_cases e:x=nw
  ·rw[e,a2.2.1]at g;cases g
  ·rw[hR1 x e]at hx;exact hx g
 ·rw[hval nw 1 (.inr (by decide)),hv1,hod];exact D.cl.keep fun x hx=>hval x 1 (.inr (by decide))
 ·by_cases e:x=nw
  ·rw[e,hRn];simp
  ·rw[hR1 x e,D.cp x];simp[e]
 ·rw[setR_off _ _ _ _ (by omega)];exact r5
 ·have he':e∈s.buf t:=he;rw[hb]at he';cases he'
 ·rw[hvw _ _ (.inl (K.lt t))];exact h1.keep fun x hx=>hvw x _ (.inl (hnt x (by rw[(h2 x hx).2];simp)))
 ·exact ⟨(h2 x hx).1,by rw[hll x hx];exact (h2 x hx).2⟩
 ·show ((s.put ⟨K.top,0,nw⟩).setR t 1 od).reg t 0≠((s.put ⟨K.top,0,nw⟩).setR t 1 od).reg t 1→_;rw[setR_at,setR_off _ _ _ _ (by omega)];intro g
  have:s.reg t 0=od:=by rw[he,a6]
  exact absurd this g
 ·have g1:=D.ho r hr2 h h0;have hx:s.reg r 0≠K.top:=hnt _ (by rcases g1 with g|⟨w,g⟩ <;> rw[g] <;> simp);refine ⟨?_,hval _ 1 (.inl hx)⟩
  by_cases e:s.reg r 0=nw
  ·left;rw[e];exact hRn
  ·rw[hR1 _ e];exact g1
 ·rw[setR_off _ _ _ _ (by omega)]at g;have:R' (s.reg t 3)=.mine t:=g;rw[←hnw,hRn]at this;cases this
 ·have he':e∈s.buf t:=he;rw[hb]at he';cases he'
 ·show Qu.upd G.rem t (fl t).rest t=if ((s.put ⟨K.top,0,nw⟩).setR t 1 od).reg t 0=((s.put ⟨K.top,0,nw⟩).setR t 1 od).reg t 1 then f'.rest else f'.cur :: f'.rest
  rw[setR_at,setR_off _ _ _ _ (by omega),Qu.upd_same]
  have:s.reg t 0=od:=by rw[he,a6]
  rw[show (s.put ⟨K.top,0,nw⟩).reg t 0=s.reg t 0 from rfl,if_pos this,hs.2]
 ·show G.pend t=[];rw[D.pend t ht,hp];rfl
 ·show (fl t).cur :: G.chv=((s.put ⟨K.top,0,nw⟩).setR t 1 od).val nw 0 :: ch.map fun x=>((s.put ⟨K.top,0,nw⟩).setR t 1 od).val x 0;rw[hval nw 0 (.inl hnwt),hvn0,D.chv]
  congr 1
  exact List.map_congr_left fun x hx=>(hval x 0 (.inl (hcht x hx))).symm
theorem HInv.c85s(I:HInv K s p fl B G)(ht:t<K.X.n)(hp:p t=.cl 85 d)(hd:d<100)(hs:Same (fl t) f')(hg:f'.g=0)(hb:s.buf t=[])(he:s.val K.top 0=s.reg t 1) :
  ∃v r,G.chv=v :: r∧G.pend t=[]∧HInv K ((s.put ⟨s.reg t 5,0,s.reg t 2⟩).setR t 1 (s.val (s.reg t 5) 0)) (upd p t (.cl 86 d)) (updP fl t f') B {G with chv:=r,pend:=Qu.upd G.pend t [v]}:=by
 obtain ⟨L,R,ch,C,D⟩:=I;obtain ⟨r5,bf,l,h1,h2,h3,h4⟩:=D.th t ht;have hh2:=D.h2 t ht (by rw[hp];trivial);rw[hp]at h4;obtain ⟨a1,a2⟩:=h4;rw[r5,hh2];obtain ⟨od,hod⟩:∃od,od=s.reg t 0:=⟨_,rfl⟩;rw[a2,←hod]at he;rw[←hod]at a1 ⊢;rw[he];have hcl:=D.cl;rw[he]at hcl
 cases hch:ch with
 |nil=>rw[hch]at hcl;exact absurd hcl a1
 |cons y ch1=>
 rw[hch]at hcl;obtain ⟨rfl,hcl⟩:=hcl;have t0:R od=.pub:=(D.cp od).2 (by rw[hch];simp);have hcn:=D.cn;rw[hch]at hcn;obtain ⟨n1,n2⟩:=List.nodup_cons.1 hcn;obtain ⟨nw,hnw⟩:∃nw,nw=s.val od 1:=⟨_,rfl⟩;rw[←hnw]at hcl ⊢
 have hval:∀x w,x≠K.top∨w≠0→((s.put ⟨K.top,0,nw⟩).setR t 1 od).val x w=s.val x w:=fun x w h=>if_neg fun g=>h.elim (fun e=>e g.1) (fun e=>e g.2);have hv0:((s.put ⟨K.top,0,nw⟩).setR t 1 od).val K.top 0=nw:=if_pos ⟨rfl,rfl⟩;have hnt:∀x,R x≠.sp→x≠K.top:=fun x h e=>h (by rw[e];exact sp_top D)
 have hodt:od≠K.top:=hnt od (by rw[t0];simp);have hcht:∀x∈ch1,x≠K.top∧x≠od:=fun x hx=>⟨hnt x (by rw[(D.cp x).2 (by rw[hch];exact List.mem_cons_of_mem _ hx)];simp),fun e=>n1 (e ▸ hx)⟩;have hR1:∀x,x≠od→(fun x=>if x=od then Ro.mine t else R x) x=R x:=fun x h=>if_neg h
 have hRo:(fun x=>if x=od then Ro.mine t else R x) od=.mine t:=if_pos rfl;generalize (fun x=>if x=od then Ro.mine t else R x)=R' at hR1 hRo;have hne:∀x,R x≠.pub→x≠od:=fun x h e=>h (by rw[e];exact t0);have hll:∀x∈l,R' x=R x:=fun x hx=>hR1 x (hne x (by rw[(h2 x hx).2];simp))
 have hvw:∀x w,x≠K.top∨w≠0→((s.put ⟨K.top,0,nw⟩).setR t 1 od).vw t x w=s.vw t x w:=fun x w h=>by
  unfold A.vw;rw[hval x w h];rfl
 have hpd:G.pend t=[]:=by rw[D.pend t ht,hp];rfl
 have hcv:G.chv=s.val od 0 :: ch1.map fun x=>s.val x 0:=by rw[D.chv,hch];rfl
 have hown:Own R' t l od:=⟨a1,hRo,fun hx=>by have:=(h2 od hx).2;rw[t0]at this;cases this⟩
 refine ⟨_,_,hcv,hpd,HInv.own (R':=R') (ch':=ch1) C D ht hp _ f' (d':=d) rfl hd (fun _=>rfl) (fun u hu=>setR_ne _ _ _ hu) (fun _ _=>rfl) (setR_off _ _ _ _ (by omega)) (setR_off _ _ _ _ (by omega)) [] (by rw[List.append_nil];rfl) (fun e he=>by cases he) (fun x w h=>hval x w (.inl fun e=>K.tg (e ▸ h)))
  (fun x u hu=>?_) (fun u x w hu hx=>hval x w (.inl (hnt x (by rw[hx];simp)))) (fun u hu _=>hval _ _ (.inl (K.lt u))) ?_ (fun x hx=>?_) (fun x hx=>by rw[hR1 x (hne x (by rw[D.sp x hx];simp))];exact D.sp x hx) (fun w hw=>hval _ w (.inr hw)) ?_ n2 (fun x=>?_) ⟨?_,fun e he=>?_,l,?_,fun x hx=>?_,h3,?_⟩ (fun r hr2 hne2 h h0=>?_) (fun h=>h.elim) (fun h=>h.elim) (fun g=>by omega) (fun g=>by omega) (fun e he=>?_) (cells_set D.cells rfl (by rw[hp];exact hs.nb)) (fun u hu=>⟨rfl,Qu.upd_ne _ _ hu⟩) ?_ ?_ ?_⟩
 ·by_cases e:x=od
  ·rw[e,hRo,t0];exact ⟨fun g=>(by cases g;exact absurd rfl hu),fun g=>(by cases g)⟩
  ·rw[hR1 x e]
 ·rw[hR1 0 (fun e=>a1 e.symm)];exact D.z
 ·refine D.hr x fun g=>?_
  by_cases e:x=od
  ·rw[e,t0]at g;cases g
  ·rw[hR1 x e]at hx;exact hx g
 ·rw[hv0];exact hcl.keep fun x hx=>hval x 1 (.inr (by decide))
 ·by_cases e:x=od
  ·rw[e,hRo];exact ⟨fun g=>(by cases g),fun g=>absurd g n1⟩
  ·rw[hR1 x e,D.cp x,hch];simp[e]
 ·rw[setR_off _ _ _ _ (by omega)];exact r5
 ·have he':e∈s.buf t:=he;rw[hb]at he';cases he'
 ·rw[hvw _ _ (.inl (K.lt t))];exact h1.keep fun x hx=>hvw x _ (.inl (hnt x (by rw[(h2 x hx).2];simp)))
 ·exact ⟨(h2 x hx).1,by rw[hll x hx];exact (h2 x hx).2⟩
 ·show _→Own R' t l (((s.put ⟨K.top,0,nw⟩).setR t 1 od).reg t 0);intro _;rw[setR_off _ _ _ _ (by omega)];show Own R' t l (s.reg t 0);rw[←hod];exact hown
 ·have g1:=D.ho r hr2 h h0;have hx:s.reg r 0≠K.top:=hnt _ (by rcases g1 with g|⟨w,g⟩ <;> rw[g] <;> simp);refine ⟨?_,hval _ 1 (.inl hx)⟩
  by_cases e:s.reg r 0=od
  ·right;exact ⟨t,by rw[e];exact hRo⟩
  ·rw[hR1 _ e];exact g1
 ·have he':e∈s.buf t:=he;rw[hb]at he';cases he'
 ·show G.rem t=f'.rest;rw[D.rem t ht,hp,hs.2];rfl
 ·show Qu.upd G.pend t [s.val od 0] t=if ((s.put ⟨K.top,0,nw⟩).setR t 1 od).reg t 0=((s.put ⟨K.top,0,nw⟩).setR t 1 od).reg t 1 then [((s.put ⟨K.top,0,nw⟩).setR t 1 od).vw t (((s.put ⟨K.top,0,nw⟩).setR t 1 od).reg t 0) 0]else []
  rw[setR_at,setR_off _ _ _ _ (by omega),Qu.upd_same,show (s.put ⟨K.top,0,nw⟩).reg t 0=s.reg t 0 from rfl,←hod,if_pos rfl,hvw od 0 (.inl hodt)]
  congr 1
  exact (vw_nil hb).symm
 ·show (ch1.map fun x=>s.val x 0)=ch1.map fun x=>((s.put ⟨K.top,0,nw⟩).setR t 1 od).val x 0;exact List.map_congr_left fun x hx=>(hval x 0 (.inl (hcht x hx).1)).symm
end Qp
end
section
namespace Qg
open Qs
variable {X:Cx}{ptr:Int}{s s':A}{p p':Nat→Pos}{L L':List Nat}{B:Int}{t u:Nat}
variable {code:Nat→List Instr}{ann:Nat→List Pos}{N:Int}{m:M}
theorem tms_len(m:M):(tms m).length=m.cells.length:=by unfold tms;rw[List.length_map]
theorem ex_pc(s:A)(t:Nat)(x:Instr)(tg u:Nat)(hu:u≠t):(s.ex t x tg).pc u=s.pc u:=by
 unfold A.ex
 split
 all_goals first
  |rfl
  |exact if_neg hu
  |(split <;> first|rfl|exact if_neg hu)
  |(show A.pc (if _ then _ else _) u=_;split <;> rfl)
theorem ex_pct(s:A)(t:Nat)(x:Instr)(tg:Nat):(Jmp s t x→(s.ex t x tg).pc t=tg)∧(¬Jmp s t x→(s.ex t x tg).pc t=s.pc t):=by
 obtain ⟨op,a,b,c,to⟩:=x;unfold Jmp;simp only
 by_cases h14:op=14
 ·subst h14;unfold A.ex;simp only
  by_cases h:s.reg t a.toNat=0
  ·rw[if_pos h];exact ⟨fun _=>if_pos rfl,fun g=>absurd (by simp[h]) g⟩
  ·rw[if_neg h];exact ⟨fun g=>by simp[h]at g,fun _=>rfl⟩
 ·by_cases h15:op=15
  ·subst h15;unfold A.ex;simp only
   by_cases h:s.reg t a.toNat=s.reg t b.toNat
   ·rw[if_pos h];exact ⟨fun _=>if_pos rfl,fun g=>absurd (by simp[h]) g⟩
   ·rw[if_neg h];exact ⟨fun g=>by simp[h]at g,fun _=>rfl⟩
  ·by_cases h16:op=16
   ·subst h16;exact ⟨fun _=>if_pos rfl,fun g=>absurd (.inr (.inr rfl)) g⟩
   ·refine ⟨fun g=>by omega,fun _=>?_⟩;unfold A.ex
    split
    all_goals first
     |rfl
     |(rename_i h;simp only at h;omega)
     |(show A.pc (if _ then _ else _) t=_;split <;> rfl)
end Qg
end
section
namespace Qk
open Qs Qg
variable {K:Ck}{code:Nat→List Instr}{ann:Nat→Nat→Pos × Fl}{N:Int}{m:M}{t u:Nat}
theorem h_force_marks(m:M):∀k,(m.force k).marks=m.marks
 |0=>rfl
 |k+1=>by show ((m.force k).fence k).marks=_;exact h_force_marks m k
theorem h_drain_marks(m:M)(t:Nat):(m.drain t).1.marks=m.marks:=by
 unfold M.drain
 split <;> rfl
theorem h_exec_marks(m:M)(t:Nat)(x:Instr)(h:x.op≠18):(m.exec t x).marks=m.marks:=by
 unfold M.exec;simp only
 split
 all_goals first
  |rfl
  |exact absurd (by assumption) h
  |exact h_force_marks m _
  |(split <;> first
    |rfl
    |(split <;> first|rfl|exact h_drain_marks m t)
    |(show M.marks (if _ then (m.drain t).1 else m)=_;split <;> first|rfl|exact h_drain_marks m t)
    |(show M.marks (if _ then _ else _)=_;split <;> rfl))
end Qk
end
section
namespace Qp
open Qs Qg
open Qk (Ro ChL Own)
open Qu (Gh sumN)
def G1(f f':Fp):Prop:=f'.g≤f.g∧1≤f'.g
def Cp.insC(K:Cp)(t:Nat)(f:Fp):Nat→Nat × Int × Int × Int→Prop
 |60,x=>x=(10,3,0,0)
 |61,x=>x=(14,3,0,0)
 |62,x=>x=(0,0,f.cur,0)
 |63,x=>x=(7,3,0,0)
 |64,x=>x=(17,0,0,0)
 |65,x=>x=(6,0,5,0)
 |66,x=>x=(7,3,0,1)
 |67,x=>x=(1,1,0,0)
 |68,x=>x=(1,2,3,0)
 |69,x=>x=(9,5,1,0)
 |70,x=>x=(15,0,1,0)
 |71,x=>x=(16,0,0,0)
 |72,x=>x=(17,0,0,0)
 |73,x=>x=(17,0,0,0)
 |80,x=>x=(17,0,0,0)
 |81,x=>x=(6,0,5,0)
 |82,x=>x=(14,0,0,0)
 |83,x=>x=(6,2,0,1)
 |84,x=>x=(1,1,0,0)
 |85,x=>x=(9,5,1,0)
 |86,x=>x=(15,0,1,0)
 |87,x=>x=(16,0,0,0)
 |88,x=>x=(17,0,0,0)
 |89,x=>x=(1,3,0,0)
 |90,x=>x=(14,3,0,0)
 |91,x=>x=(6,0,3,0)
 |92,x=>x=(18,0,0,0)
 |93,x=>x=(17,0,0,0)
 |30,x=>x=(14,3,0,0)
 |31,x=>x=(6,2,5,((1+t/4:Nat):Int))
 |32,x=>x=(6,0,2,(K.lw t:Int))
 |33,x=>x=(7,3,0,(K.nx:Int))
 |34,x=>x=(7,2,3,(K.lw t:Int))
 |35,x=>x=(0,3,0,0)
 |36,x=>x=(17,0,0,0)
 |40,x=>x=(6,2,5,((1+t/4:Nat):Int))
 |41,x=>x=(17,0,0,0)
 |42,x=>x=(6,0,2,(K.lw t:Int))
 |43,x=>x=(14,0,0,0)
 |44,x=>x=(6,1,0,(K.nx:Int))
 |45,x=>x=(7,2,1,(K.lw t:Int))
 |46,x=>x=(11,0,0,0)
 |47,x=>x=(16,0,0,0)
 |48,x=>x=(17,0,0,0)
 |_,_=>False
def nextC(f0:Nat)(d:Nat)(f:Fp)(q:Pos)(f':Fp):Nat→Prop
 |60=>q=.cl 61 d∧Same f f'∧f'.g=1
 |61=>q=.cl 62 d∧Same f f'∧G1 f f'
 |62=>q=.cl 63 d∧Same f f'∧G1 f f'
 |63=>q=.cl 64 d∧Same f f'∧G1 f f'
 |64=>q=.cl 65 d∧Same f f'∧G1 f f'
 |65=>q=.cl 66 d∧Same f f'∧G1 f f'
 |66=>q=.cl 67 d∧Same f f'∧G1 f f'
 |67=>q=.cl 68 d∧Same f f'∧G1 f f'
 |68=>q=.cl 69 d∧Same f f'∧G1 f f'
 |69=>q=.cl 70 d∧Same f f'∧G1 f f'∧f'.g≤1
 |70=>q=.cl 71 d∧Same f f'∧G1 f f'
 |81=>q=.cl 82 d∧Same f f'∧f'.g=0∧f'.r=false∧0<d
 |82=>q=.cl 83 d∧Same f f'∧f'.g=0∧0<d
 |83=>q=.cl 84 d∧Same f f'∧f'.g=0∧0<d
 |84=>q=.cl 85 d∧Same f f'∧f'.g=0∧0<d
 |85=>q=.cl 86 d∧Same f f'∧f'.g=0
 |86=>q=.cl 87 d∧Same f f'∧f'.g=0∧f'.r=false
 |88=>q=.cl 89 d∧Same f f'∧f'.g=0
 |89=>q=.cl 90 d∧Same f f'∧f'.g=0
 |90=>q=.cl 91 d∧Same f f'∧f'.g=0
 |91=>q=.cl 92 d∧Same f f'∧f'.g=0
 |92=>q=.cl 93 d∧Same f f'∧f'.g=0
 |93=>(genQ q=true∨∃d2,q=.cl 30 d2)∧(∃d',startD f0 q=some d'∧d'<100∧(f0≠3→d'=d))∧f'.g≤f.g∧Stat f' q f.rest
 |30=>q=.cl 31 d∧Same f f'∧f'.g≤f.g
 |31=>q=.cl 32 d∧Same f f'∧f'.g≤f.g
 |32=>q=.cl 33 d∧Same f f'∧f'.g≤f.g
 |33=>q=.cl 34 d∧Same f f'∧f'.g≤f.g
 |34=>q=.cl 35 d∧Same f f'∧f'.g=0
 |35=>q=.cl 36 d∧Same f f'∧f'.g≤f.g
 |40=>q=.cl 41 d∧Same f f'∧f'.g≤f.g∧2≤f'.g
 |41=>q=.cl 42 d∧Same f f'∧f'.g≤f.g∧2≤f'.g
 |42=>q=.cl 43 d∧Same f f'∧f'.g≤f.g∧2≤f'.g
 |43=>q=.cl 44 d∧Same f f'∧f'.g≤f.g∧2≤f'.g
 |44=>q=.cl 45 d∧Same f f'∧f'.g≤f.g∧2≤f'.g
 |45=>q=.cl 46 d∧Same f f'∧f'.g≤f.g∧2≤f'.g
 |46=>q=.cl 47 d∧Same f f'∧f'.g≤f.g∧2≤f'.g
 |_=>Beg2 f0 d q f f'
def jumpC(f0:Nat)(d:Nat)(f:Fp)(q:Pos)(f':Fp):Nat→Prop
 |61=>q=.cl 73 d∧Same f f'∧f'.g=0∧f'.r=false
 |70=>q=.cl 72 d∧Same f f'∧f'.g=0∧f'.r=false
 |71=>q=.cl 64 d∧Same f f'∧G1 f f'
 |82=>q=.cl 88 d∧Same f f'∧f'.g=0
 |86=>q=.cl 88 d∧Same f f'∧f'.g=0
 |87=>Beg2 f0 d q f f'
 |90=>q=.cl 93 d∧Same f f'∧f'.g=0
 |30=>q=.cl 36 d∧Same f f'∧f'.g≤f.g
 |43=>q=.cl 48 d∧Same f f'∧f'.g≤f.g∧f'.r=false
 |47=>q=.cl 41 d∧Same f f'∧f'.g≤f.g∧2≤f'.g
 |_=>False
structure LineP(K:Cp)(t:Nat)(code:List Instr)(ann:Nat→Pos × Fp)(i:Nat)(x:Instr):Prop where
 ip:InsP x
 at_:x.op=20∨(ann i).1=.dead∨
  (insOf K.X.f (ann i).1=some (x.op,x.A,x.B,x.C)∧(14≤x.op→x.op≤16→∃j,labelAt x.to code 0=some j∧ann j=(tgtOf (ann i).1,(ann i).2))∧(x.op≠16→NextF K.X.f (ann i).1 (ann (i+1)).1 (ann i).2 (ann (i+1)).2))∨
  ∃c d,(ann i).1=.cl c d∧d<100∧K.insC t (ann i).2 c (x.op,x.A,x.B,x.C)∧(x.op≠16→nextC K.X.f d (ann i).2 (ann (i+1)).1 (ann (i+1)).2 c)∧(14≤x.op→x.op≤16→∃j,labelAt x.to code 0=some j∧jumpC K.X.f d (ann i).2 (ann j).1 (ann j).2 c)
variable {K:Cp}{code:Nat→List Instr}{ann:Nat→Nat→Pos × Fp}{N:Int}{m:M}{t u:Nat}{G0:Gh}
def posP(ann:Nat→Nat→Pos × Fp)(m:M)(t:Nat):Pos:=(ann t (m.thr t).pc).1
def flP(ann:Nat→Nat→Pos × Fp)(m:M)(t:Nat):Fp:=(ann t (m.thr t).pc).2
structure GoodP(K:Cp)(code:Nat→List Instr)(ann:Nat→Nat→Pos × Fp)(G0:Gh)(N:Int)(m:M):Prop where
 W:WM K.X.n code m
 ft:m.faults=0
 inv:∃G,Evs K.X.n G0 G∧G.marks=m.marks∧(K.Z≤64→G.lost=[])∧HInv K (absM m) (posP ann m) (flP ann m) (1+2*N) G
 tm:∀v∈tms m,0≤v∧v≤N+1
 hok:HokL m.cells
 len:m.cells.length=64
theorem GoodP.buf0(W:WM K.X.n code m):∀t,K.X.n≤t→(absM m).buf t=[]:=fun t ht=>by
 show (m.waitsOf t).map enOf=[];unfold M.waitsOf;rw[List.getD,List.getElem?_eq_none (by rw[W.W];exact ht)];rfl
theorem GoodP.bufs(G:GoodP K code ann G0 N m):∀u,∀e∈(absM m).buf u,(absM m).here e.a=true:=fun u e he=>by
 obtain ⟨H,e1,e2,e3,I⟩:=G.inv
 by_cases hu:u<K.X.n
 ·exact I.bufs hu e he
 ·rw[GoodP.buf0 G.W u (by omega)]at he;simp at he
theorem GoodP.drain(G:GoodP K code ann G0 N m)(h0:0≤N)(t:Nat)(ht:t<K.X.n):GoodP K code ann G0 (N+1) (m.drain t).1:=by
 obtain ⟨h1,h2,h3,h4⟩:=abs_drain G.W ht (G.bufs t);obtain ⟨H,e1,e2,e3,I⟩:=G.inv;refine ⟨h3,by rw[h2];exact G.ft,⟨H,e1,by rw[Qk.h_drain_marks];exact e2,e3,?_⟩,by rw[tms_drain];intro v hv;have:=G.tm v hv;omega,hok_drain _ _ G.hok,by rw[←tms_len,tms_drain,tms_len];exact G.len⟩
 have hp:posP ann (m.drain t).1=posP ann m:=by funext u;unfold posP M.thr;rw[h4]
 have hf:flP ann (m.drain t).1=flP ann m:=by funext u;unfold flP M.thr;rw[h4]
 rw[h1,hp,hf];exact (I.dr t (GoodP.buf0 G.W)).up (by omega)
theorem GoodP.up(G:GoodP K code ann G0 N m):GoodP K code ann G0 (N+1) m:=by
 obtain ⟨H,e1,e2,e3,I⟩:=G.inv;exact ⟨G.W,G.ft,⟨H,e1,e2,e3,I.up (by omega)⟩,fun v hv=>by have:=G.tm v hv;omega,G.hok,G.len⟩
theorem ann_step{m':M}{q:Pos}{f:Fp}(h1:∀u,u≠t→(m'.thr u).pc=(m.thr u).pc)(h2:ann t (m'.thr t).pc=(q,f)):posP ann m'=upd (posP ann m) t q∧flP ann m'=updP (flP ann m) t f:=by
 refine ⟨funext fun u=>?_,funext fun u=>?_⟩
 ·by_cases e:u=t
  ·subst e;rw[upd_same];unfold posP;rw[h2]
  ·rw[upd_ne _ _ e];unfold posP;rw[h1 u e]
 ·by_cases e:u=t
  ·subst e;rw[updP_same];unfold flP;rw[h2]
  ·rw[updP_ne _ _ e];unfold flP;rw[h1 u e]
theorem GoodP.free(G:GoodP K code ann G0 N m)(hN:N<50000000)(ht:t<K.X.n){d:Nat}(hp:posP ann m t=.cl 60 d)(hZ:K.Z≤64):∃c∈m.cells,c.here=false:=by
 obtain ⟨H,e1,e2,e3,L,R,ch,C,D⟩:=G.inv;obtain ⟨Ls,k1,k2,k3⟩:=D.cells;refine free_cell (l:=Ls) (fun x hx=>(k2 x).1 hx) ?_ G.hok (fun c hc=>?_) G.W.cells
 ·have h:=Qu.sumN_at (fun t=>nbOf (flP ann m t) (posP ann m t)) t K.X.n ht
  have h60:nbOf (flP ann m t) (posP ann m t)=(flP ann m t).rest.length+1:=by rw[hp];rfl
  rw[G.len];omega
 ·have:=G.tm c.times (List.mem_map.2 ⟨c,hc,rfl⟩);omega
theorem HInv.req{s:A}{p:Nat→Pos}{fl:Nat→Fp}{B:Int}{G:Gh}(I:HInv K s p fl B G)(ht:t<K.X.n){x:Instr}(hx:insOf K.X.f (p t)=some (x.op,x.A,x.B,x.C)):s.Req t x:=by
 obtain ⟨L,R,ch,C,D⟩:=I;have T:=C.th t ht;have hgr:∀y,K.X.gr y→s.here y=true:=fun y hy=>D.hr y (by rw[sp_gr D hy];simp)
 have h6:s.here (s.reg t 6)=true:=by rw[T.r6];exact hgr _ (gr_own ht)
 have h7:s.here (s.reg t 7)=true:=by rw[T.r7];exact hgr _ gr_hub
 obtain ⟨op,a,b,c,to⟩:=x;simp only at hx;unfold A.Req;simp only
 rcases ins_what hx with ⟨rfl,h⟩|⟨rfl,rfl,rfl⟩|h|⟨h,_⟩
 ·rcases h with rfl|rfl
  ·exact h6
  ·exact h7
 ·exact h7
 ·rcases h with rfl|rfl|rfl|rfl|rfl|rfl <;> trivial
 ·rcases h with rfl|rfl|rfl|rfl|rfl|rfl
  ·trivial
  ·trivial
  ·trivial
  ·trivial
  ·trivial
  ·rcases ins_reads hx with rfl|rfl|⟨rfl,h⟩
   ·exact h6
   ·exact h7
   ·have Tb:=T.b;show s.here (s.reg t 2)=true
    rcases h with ⟨g,j,hp⟩|⟨j,hp⟩
    ·rw[hp]at Tb;obtain ⟨_,_,y,l,hy,hr,_⟩:=Tb;rw[hr];exact hgr _ (gr_own hy)
    ·rw[hp]at Tb;obtain ⟨_,_,y,l,hy,hr,_⟩:=Tb;rw[hr];exact hgr _ (gr_own hy)
theorem GoodP.step(G:GoodP K code ann G0 N m)(h0:0≤N)(hN:N<1000000)(hnum:G0.num K.X.n<500)(ht:t<K.X.n)(O:∀r,r<K.X.n→K.X.own r≠0)(hl:∀i x,(code t)[i]?=some x→LineP K t (code t) (ann t) i x):GoodP K code ann G0 (N+1) (m.step t).1:=by
 unfold M.step;rw[G.W.code t ht]
 cases hx:(code t)[(m.thr t).pc]? with
 |none=>exact G.up
 |some x=>
  obtain ⟨hip,hat⟩:=hl _ x hx;simp only
  split
  ·exact G.up
  ·rename_i h20
   have hat:=hat.resolve_left h20
   have hnd:(ann t (m.thr t).pc).1≠.dead:=fun e=>by
    obtain ⟨_,_,_,_,L,R,ch,C,D⟩:=G.inv;have Ta:=(C.th t ht).a;have e2:posP ann m t=.dead:=e;rw[e2]at Ta;exact Ta.elim
   have hat:=hat.resolve_left hnd;obtain ⟨p1,p2,p3⟩:=abs_setPc G.W ht ((m.thr t).pc+1);obtain ⟨m1,hm1⟩:∃m1,m1=m.setPc t ((m.thr t).pc+1):=⟨_,rfl⟩;rw[←hm1]at p1 p2 p3 ⊢
   have hft1:m1.faults=0:=by rw[p2];exact G.ft
   have htm1:tms m1=tms m:=by rw[hm1];rfl
   have hok1:HokL m1.cells:=by rw[hm1];exact G.hok
   have hcl1:m1.cells=m.cells:=by rw[hm1];rfl
   have hmk1:m1.marks=m.marks:=by rw[hm1];rfl
   clear hm1;have fx:=hip;obtain ⟨H,e1,e2,e3,I⟩:=G.inv;obtain ⟨P,hP⟩:∃P,P=posP ann m t:=⟨_,rfl⟩;obtain ⟨q,hq⟩:∃q,q=(ann t ((m.thr t).pc+1)).1:=⟨_,rfl⟩;obtain ⟨g,hg⟩:∃g,g=(ann t ((m.thr t).pc+1)).2:=⟨_,rfl⟩;have hPd:(ann t (m.thr t).pc).1=P:=hP.symm;have hFd:(ann t (m.thr t).pc).2=flP ann m t:=rfl
   rw[hPd,hFd,←hq,←hg]at hat
   have hbs:∀u,∀e∈(absM m1).buf u,(absM m1).here e.a=true:=by rw[p1];exact G.bufs
   have hI1:HInv K (absM m1) (posP ann m) (flP ann m) (1+2*N) H:=by rw[p1];exact I.pc _ _
   have hb0:∀t,K.X.n≤t→(absM m1).buf t=[]:=by rw[p1];exact GoodP.buf0 G.W
   have hpc1:(absM m1).pc t=(m.thr t).pc+1:=by rw[p1];exact if_pos rfl
   have hpcu:∀u,u≠t→(absM m1).pc u=(m.thr u).pc:=fun u hu=>by rw[p1];exact if_neg hu
   have hkeep:=A.pre_keep (P:=fun s'=>HInv K s' (posP ann m) (flP ann m) (1+2*N) H∧∀t,K.X.n≤t→s'.buf t=[]) (fun s' u ⟨a,b⟩=>⟨a.dr u b,fun v hv=>by
    rw[A.dr_buf]
    split
    ·rename_i e;rw[←e,b v hv];rfl
    ·exact b v hv⟩) (absM m1) K.X.n t x ⟨hI1,hb0⟩
   obtain ⟨s2,hs2⟩:∃s2,s2=(absM m1).pre K.X.n t x:=⟨_,rfl⟩;rw[←hs2]at hkeep;have hI2:=hkeep.1
   have hs2reg:s2.reg=(absM m1).reg:=by
    rw[hs2];exact A.pre_keep (P:=fun s'=>s'.reg=(absM m1).reg) (fun s' u h=>by rw[A.dr_reg];exact h) _ _ _ _ rfl
   have hs2here:s2.here=(absM m1).here:=by
    rw[hs2];exact A.pre_keep (P:=fun s'=>s'.here=(absM m1).here) (fun s' u h=>by rw[A.dr_here];exact h) _ _ _ _ rfl
   have hs2pc:s2.pc=(absM m1).pc:=by
    rw[hs2];exact A.pre_keep (P:=fun s'=>s'.pc=(absM m1).pc) (fun s' u h=>by rw[A.dr_pc];exact h) _ _ _ _ rfl
   have hfen:x.op=8∨x.op=9∨x.op=11∨x.op=12→s2.buf t=[]:=fun h=>by
    rw[hs2];unfold A.pre
    rcases h with h|h|h|h <;> (rw[h];simp only;rw[A.fn_buf,if_pos rfl])
   have hfo:x.op=13→∀u,u<K.X.n→s2.buf u=[]:=fun h u hu=>by
    rw[hs2];unfold A.pre;rw[h];simp only;rw[A.fo_buf,if_pos hu]
   have hreq:s2.Req t x→(absM m1).Req t x:=fun h=>by
    unfold A.Req at h ⊢;rw[hs2reg,hs2here]at h;exact h
   have finG:∀(tg:Nat) (q':Pos) (f':Fp),(14≤x.op→x.op≤16→labelAt x.to (code t) 0=some tg)→x.op≠10→x.op≠18→s2.Req t x→ann t ((s2.ex t x tg).pc t)=(q',f')→(∃H',Ev K.X.n H H'∧H'.marks=H.marks∧H'.lost=H.lost∧HInv K (s2.ex t x tg) (upd (posP ann m) t q') (updP (flP ann m) t f') (1+2*(N+1)) H')→GoodP K code ann G0 (N+1) (m1.exec t x):=fun tg q' f' htg h10 h18 hR hq' ⟨H',v1,v2,v3,hI⟩=>by
    obtain ⟨r1,r2,r3⟩:=abs_exec p3 ht fx (hreq hR) hbs htg;rw[←hs2]at r1
    have hpc:∀u,((m1.exec t x).thr u).pc=(s2.ex t x tg).pc u:=fun u=>by
     have:(absM (m1.exec t x)).pc u=(s2.ex t x tg).pc u:=by rw[r1]
     exact this
    obtain ⟨hpos,hfl⟩:=ann_step (m:=m) (m':=m1.exec t x) (t:=t) (q:=q') (f:=f') (ann:=ann) (fun u hu=>by rw[hpc,ex_pc _ _ _ _ _ hu,hs2pc];exact hpcu u hu) (by rw[hpc];exact hq')
    refine ⟨r3,by rw[r2];exact hft1,⟨H',.snoc e1 v1,by rw[Qk.h_exec_marks _ _ _ h18,hmk1,v2];exact e2,fun h=>by rw[v3];exact e3 h,by rw[r1,hpos,hfl];exact hI⟩,fun v hv=>?_,hok_exec _ _ _ (fun v hv=>?_) hok1,by rw[←tms_len,tms_exec _ _ _ h10,htm1,tms_len];exact G.len⟩
    ·rw[tms_exec _ _ _ h10,htm1]at hv;have:=G.tm v hv;omega
    ·rw[htm1]at hv;exact (G.tm v hv).1
   have fin:∀(tg:Nat) (q':Pos) (f':Fp),(14≤x.op→x.op≤16→labelAt x.to (code t) 0=some tg)→x.op≠10→x.op≠18→s2.Req t x→ann t ((s2.ex t x tg).pc t)=(q',f')→HInv K (s2.ex t x tg) (upd (posP ann m) t q') (updP (flP ann m) t f') (1+2*(N+1)) H→GoodP K code ann G0 (N+1) (m1.exec t x):=fun tg q' f' htg h10 h18 hR hq' hI=>finG tg q' f' htg h10 h18 hR hq' ⟨H,.same H,rfl,rfl,hI⟩
   have hpt:posP ann m t=P:=hP.symm
   have hnq:ann t ((m.thr t).pc+1)=(q,g):=by rw[hq,hg]
   have hNN:(1:Int)+2*N≤1+2*(N+1):=by omega
   have hnoj:∀tg,¬Jmp s2 t x→ann t ((s2.ex t x tg).pc t)=(q,g):=fun tg h=>by rw[(ex_pct s2 t x tg).2 h,hs2pc,hpc1];exact hnq
   have hjmp:∀tg,Jmp s2 t x→ann t ((s2.ex t x tg).pc t)=ann t tg:=fun tg h=>by rw[(ex_pct s2 t x tg).1 h]
   have hJop:Jmp s2 t x→14≤x.op∧x.op≤16:=fun h=>by
    unfold Jmp at h;omega
   rcases hat with ⟨hins,hj,hn⟩|⟨c,d,hPc,hd,hins,hn,hj⟩
   ·have hins':insOf K.X.f (posP ann m t)=some (x.op,x.A,x.B,x.C):=by rw[hpt];exact hins
    have hR:s2.Req t x:=hI2.req ht hins'
    obtain ⟨tg,htg,htg2⟩:∃tg,(14≤x.op→x.op≤16→labelAt x.to (code t) 0=some tg)∧(14≤x.op→x.op≤16→ann t tg=(tgtOf P,flP ann m t)):=by
     by_cases h:14≤x.op∧x.op≤16
     ·obtain ⟨j,j1,j2⟩:=hj h.1 h.2;exact ⟨j,fun _ _=>j1,fun _ _=>j2⟩
     ·exact ⟨0,fun a b=>absurd ⟨a,b⟩ h,fun a b=>absurd ⟨a,b⟩ h⟩
    have hops:=ins_what hins
    have h10:x.op≠10:=fun h=>by omega
    have h18:x.op≠18:=fun h=>by omega
    by_cases hJ:Jmp s2 t x
    ·refine fin tg (tgtOf P) (flP ann m t) htg h10 h18 hR (by rw[hjmp tg hJ];exact htg2 (hJop hJ).1 (hJop hJ).2) ?_;exact (hI2.grace ht hins' (fun h=>hfen (by omega)) hfo O (by omega) (fun hJ=>⟨by rw[hpt],rfl⟩) (fun g=>absurd hJ g) tg).up (by omega)
    ·refine fin tg q g htg h10 h18 hR (hnoj tg hJ) ?_;refine (hI2.grace ht hins' (fun h=>hfen (by omega)) hfo O (by omega) (fun g=>absurd g hJ) (fun _=>?_) tg).up (by omega);rw[hpt];exact hn fun h=>hJ (.inr (.inr h))
   rw[hPc]at hpt;obtain ⟨op,xa,xb,xc,to⟩:=x
   have h3:nextC K.X.f d (flP ann m t) q g 92→c=92→op=18→xa=0→GoodP K code ann G0 (N+1) (m1.exec t ⟨op,xa,xb,xc,to⟩):=fun hb hc h18 hxa=>by
    subst hc;subst h18;subst hxa;obtain ⟨hqe,hsm,hg0⟩:=hb
    have hs2e:s2=absM m1:=by rw[hs2];rfl
    obtain ⟨hV,hI3⟩:=hI2.c92 ht hpt hd hsm hg0
    have hmr:((m1.thr t).reg 0)=s2.reg t 0:=by rw[hs2e];rfl
    have hlen:m1.marks.length<500:=by
     have:=e1.num;unfold Gh.num at this;rw[hmk1,←e2];unfold Gh.num at hnum;omega
    have hex:m1.exec t ⟨18,0,xb,xc,to⟩ = {m1 with marks:=m1.marks++[((t:Int),(m1.thr t).reg 0)]}:=by
     unfold M.exec;simp only[if_pos hlen]
    rw[hex];obtain ⟨q1,q2⟩:=ann_step (m:=m) (m':={m1 with marks:=m1.marks++[((t:Int),(m1.thr t).reg 0)]}) (t:=t) (q:=q) (f:=g) (ann:=ann) (fun u hu=>hpcu u hu) (by show ann t ((absM m1).pc t)=_;rw[hpc1];exact hnq)
    refine ⟨p3.cong rfl p3.W p3.words rfl p3.wts,hft1,⟨_,.snoc e1 (.mark H t (s2.reg t 0) ht hV),?_,e3,?_⟩,fun w hw=>?_,hok1,by show m1.cells.length=64;rw[hcl1];exact G.len⟩
    ·show H.marks++[((t:Int),s2.reg t 0)]=m1.marks++[((t:Int),(m1.thr t).reg 0)];rw[e2,hmk1,hmr]
    ·rw[q1,q2,hqe];show HInv K (absM m1) _ _ _ _;rw[←hs2e];exact hI3.up hNN
    ·have hw':w∈tms m1:=hw;rw[htm1]at hw';have:=G.tm w hw';omega
   have hA:nextC K.X.f d (flP ann m t) q g 60→c=60→op=10→xa=3→GoodP K code ann G0 (N+1) (m1.exec t ⟨op,xa,xb,xc,to⟩):=fun hb hc h10 hxa=>by
    subst hc;subst h10;subst hxa;obtain ⟨hqe,hsm,hg0⟩:=hb
    have hs2e:s2=absM m1:=by rw[hs2];rfl
    cases ea:allocAt m1.cells 0 with
    |none=>
     have hex:m1.exec t ⟨10,3,xb,xc,to⟩=m1.setReg t 3 0:=by
      unfold M.exec;simp only[ea]
     have hns:¬K.Z≤64:=fun h=>by
      obtain ⟨c,hc,hc2⟩:=G.free (by omega) ht hpt h;rw[←hcl1]at hc;rw[allocAt_none _ _ ea c hc]at hc2;cases hc2
     obtain ⟨r1,r2,r3⟩:=abs_setReg p3 ht (a:=3) (by decide) 0;rw[hex]
     have hpc:∀u,((m1.setReg t 3 0).thr u).pc=(absM m1).pc u:=fun u=>by
      have:(absM (m1.setReg t 3 0)).pc u=(absM m1).pc u:=by rw[r1];rfl
      exact this
     obtain ⟨q1,q2⟩:=ann_step (m:=m) (m':=m1.setReg t 3 0) (t:=t) (q:=q) (f:=g) (ann:=ann) (fun u hu=>by rw[hpc];exact hpcu u hu) (by rw[hpc,hpc1];exact hnq);obtain ⟨w1,w2⟩:=hI1.c60z ht hpt hd hsm hg0
     refine ⟨r3,by rw[r2];exact hft1,⟨_,.snoc e1 (.lose H t _ _ ht w1),?_,fun h=>absurd h hns,?_⟩,fun w hw=>?_,hok1,by show m1.cells.length=64;rw[hcl1];exact G.len⟩
     ·show H.marks=m1.marks;rw[e2,hmk1]
     ·rw[q1,q2,r1,hqe];exact w2.up hNN
     ·have hw':w∈tms m1:=hw;rw[htm1]at hw';have:=G.tm w hw';omega
    |some k=>
     obtain ⟨k,gg⟩:=k;obtain ⟨_,y,hy,hyh,hyt⟩:=allocAt_some _ _ ea;obtain ⟨na,n1,n2,n3,n4,n5,n6,n7⟩:=abs_alloc p3 ht (xa:=3) (by decide) ⟨y,List.mem_of_getElem? hy,hyh⟩ (fun v hv=>by rw[htm1]at hv;exact G.tm v hv) (by omega) xb xc to
     have hpc:∀u,((m1.exec t ⟨10,3,xb,xc,to⟩).thr u).pc=(absM m1).pc u:=fun u=>by
      have:(absM (m1.exec t ⟨10,3,xb,xc,to⟩)).pc u=(absM m1).pc u:=by rw[n3];rfl
      exact this
     obtain ⟨q1,q2⟩:=ann_step (m:=m) (m':=m1.exec t ⟨10,3,xb,xc,to⟩) (t:=t) (q:=q) (f:=g) (ann:=ann) (fun u hu=>by rw[hpc];exact hpcu u hu) (by rw[hpc,hpc1];exact hnq)
     refine ⟨n5,by rw[n4];exact hft1,⟨H,e1,by rw[Qk.h_exec_marks _ _ _ (by simp),hmk1];exact e2,e3,?_⟩,fun v hv=>by have:=n6 v hv;omega,hok_exec _ _ _ (fun v hv=>?_) hok1,by rw[n7,hcl1];exact G.len⟩
     ·rw[q1,q2,n3,hqe];exact (hI1.c60 ht hpt hd hsm hg0 n2 (by omega)).up hNN
     ·rw[htm1]at hv;exact (G.tm v hv).1
   have F:∀ {q':Pos},¬(14≤op∧op≤16)∧op≠10∧op≠18→s2.Req t ⟨op,xa,xb,xc,to⟩→q=q'→HInv K (s2.ex t ⟨op,xa,xb,xc,to⟩ 0) (upd (posP ann m) t q') (updP (flP ann m) t g) (1+2*N) H→GoodP K code ann G0 (N+1) (m1.exec t ⟨op,xa,xb,xc,to⟩):=fun ho hR hqe hI=>by
    have hnJ:¬Jmp s2 t ⟨op,xa,xb,xc,to⟩:=fun h=>ho.1 (hJop h);exact fin 0 _ g (fun a b=>absurd ⟨a,b⟩ ho.1) ho.2.1 ho.2.2 hR (by rw[hnoj 0 hnJ,hqe]) (hI.up hNN)
   have J14:op=14→∀j,labelAt to (code t) 0=some j→(s2.reg t xa.toNat=0→HInv K s2 (upd (posP ann m) t (ann t j).1) (updP (flP ann m) t (ann t j).2) (1+2*N) H)→(s2.reg t xa.toNat≠0→HInv K s2 (upd (posP ann m) t q) (updP (flP ann m) t g) (1+2*N) H)→GoodP K code ann G0 (N+1) (m1.exec t ⟨op,xa,xb,xc,to⟩):=fun ho j j1 hy hf=>by
    subst ho
    by_cases hz:s2.reg t xa.toNat=0
    ·have hJ:Jmp s2 t ⟨14,xa,xb,xc,to⟩:=.inl ⟨rfl,hz⟩;refine fin j (ann t j).1 (ann t j).2 (fun _ _=>j1) (by simp) (by simp) trivial (by rw[hjmp j hJ]) ?_;show HInv K (if s2.reg t xa.toNat=0 then s2.setP t j else s2) _ _ _ _;rw[if_pos hz];exact ((hy hz).up hNN).pc _ _
    ·have hnJ:¬Jmp s2 t ⟨14,xa,xb,xc,to⟩:=fun h=>by
      rcases h with h|h|h
      ·exact hz h.2
      ·exact absurd h.1 (by simp)
      ·exact absurd h (by simp)
     refine fin j q g (fun _ _=>j1) (by simp) (by simp) trivial (hnoj j hnJ) ?_;show HInv K (if s2.reg t xa.toNat=0 then s2.setP t j else s2) _ _ _ _;rw[if_neg hz];exact (hf hz).up hNN
   have J15:op=15→∀j,labelAt to (code t) 0=some j→(s2.reg t xa.toNat=s2.reg t xb.toNat→HInv K s2 (upd (posP ann m) t (ann t j).1) (updP (flP ann m) t (ann t j).2) (1+2*N) H)→(s2.reg t xa.toNat≠s2.reg t xb.toNat→HInv K s2 (upd (posP ann m) t q) (updP (flP ann m) t g) (1+2*N) H)→GoodP K code ann G0 (N+1) (m1.exec t ⟨op,xa,xb,xc,to⟩):=fun ho j j1 hy hf=>by
    subst ho
    by_cases hz:s2.reg t xa.toNat=s2.reg t xb.toNat
    ·have hJ:Jmp s2 t ⟨15,xa,xb,xc,to⟩:=.inr (.inl ⟨rfl,hz⟩);refine fin j (ann t j).1 (ann t j).2 (fun _ _=>j1) (by simp) (by simp) trivial (by rw[hjmp j hJ]) ?_;show HInv K (if s2.reg t xa.toNat=s2.reg t xb.toNat then s2.setP t j else s2) _ _ _ _;rw[if_pos hz];exact ((hy hz).up hNN).pc _ _
    ·have hnJ:¬Jmp s2 t ⟨15,xa,xb,xc,to⟩:=fun h=>by
      rcases h with h|h|h
      ·exact absurd h.1 (by simp)
      ·exact hz h.2
      ·exact absurd h (by simp)
     refine fin j q g (fun _ _=>j1) (by simp) (by simp) trivial (hnoj j hnJ) ?_;show HInv K (if s2.reg t xa.toNat=s2.reg t xb.toNat then s2.setP t j else s2) _ _ _ _;rw[if_neg hz];exact (hf hz).up hNN
   unfold Cp.insC at hins
   split at hins
   ·
    cases hins;exact hA (hn (by simp)) rfl rfl rfl
   ·
    cases hins;obtain ⟨j,j1,j2,j3,j4,j5⟩:=hj (by simp) (by simp);exact J14 rfl j j1 (fun hz=>by rw[j2];exact hI2.c61z ht hpt hd j3 j4 j5 hz) (fun hz=>by obtain ⟨hqe,hsm,hm⟩:=hn (by simp);rw[hqe];exact hI2.c61 ht hpt hd hsm hm.1 hm.2 hz)
   ·
    cases hins;obtain ⟨hqe,hsm,hm⟩:=hn (by simp);exact F (by decide) trivial hqe (hI2.c62 ht hpt hd hsm hm.1 hm.2 rfl)
   ·
    cases hins;obtain ⟨hqe,hsm,hm⟩:=hn (by simp);exact F (by decide) (hI2.own3n ht hpt (by decide)).1 hqe (hI2.c63 ht hpt hd hsm hm.1 hm.2)
   ·
    cases hins;obtain ⟨hqe,hsm,hm⟩:=hn (by simp);exact F (by decide) trivial hqe (hI2.cnew ht hpt (.inl ⟨rfl,rfl⟩) hd hsm hm.1 hm.2)
   ·
    cases hins;obtain ⟨hqe,hsm,hm⟩:=hn (by simp);obtain ⟨b1,b2,b3,b4,b5⟩:=hI2.top ht;exact F (by decide) (by show s2.here (s2.reg t 5)=true;rw[b1];exact b2) hqe (hI2.c65 ht hpt hd hsm hm.1 hm.2 _)
   ·
    cases hins;obtain ⟨hqe,hsm,hm⟩:=hn (by simp);exact F (by decide) (hI2.own3n ht hpt (by decide)).1 hqe (hI2.c66 ht hpt hd hsm hm.1 hm.2)
   ·
    cases hins;obtain ⟨hqe,hsm,hm⟩:=hn (by simp);exact F (by decide) trivial hqe (hI2.c67 ht hpt hd hsm hm.1 hm.2)
   ·
    cases hins;obtain ⟨hqe,hsm,hm⟩:=hn (by simp);exact F (by decide) trivial hqe (hI2.c68 ht hpt hd hsm hm.1 hm.2)
   ·
    cases hins;have hnJ:¬Jmp s2 t _:=fun h=>absurd (hJop h) (by simp);obtain ⟨hqe,hsm,hm,hm1⟩:=hn (by simp);obtain ⟨b1,b2,b3,b4,b5⟩:=hI2.top ht;refine finG 0 (.cl 70 d) g (fun a b=>by simp at a b) (by simp) (by simp) (by show s2.here (s2.reg t 5)=true;rw[b1];exact b2) (by rw[hnoj 0 hnJ,hqe]) ?_
    by_cases he:s2.val K.top 0=s2.reg t 1
    ·obtain ⟨w1,w2⟩:=hI2.c69s ht hpt hd hsm hm1 (hfen (by simp)) he;refine ⟨_,.put H t _ _ ht w1,rfl,rfl,?_⟩;show HInv K ((if s2.val (s2.reg t 5) 0=s2.reg t 1 then s2.put ⟨s2.reg t 5,0,s2.reg t 2⟩else s2).setR t 1 (s2.val (s2.reg t 5) 0)) _ _ _ _;rw[if_pos (by rw[b1];exact he)];exact w2.up hNN
    ·refine ⟨H,.same H,rfl,rfl,?_⟩;show HInv K ((if s2.val (s2.reg t 5) 0=s2.reg t 1 then s2.put ⟨s2.reg t 5,0,s2.reg t 2⟩else s2).setR t 1 (s2.val (s2.reg t 5) 0)) _ _ _ _;rw[if_neg (by rw[b1];exact he),b1];exact (hI2.c69f ht hpt hd hsm hm.1 hm.2 he).up hNN
   ·
    cases hins;obtain ⟨j,j1,j2,j3,j4,j5⟩:=hj (by simp) (by simp);exact J15 rfl j j1 (fun hz=>by rw[j2];exact hI2.c70j ht hpt hd j3 j4 j5 hz) (fun hz=>by obtain ⟨hqe,hsm,hm⟩:=hn (by simp);rw[hqe];exact hI2.c70 ht hpt hd hsm hm.1 hm.2 hz)
   ·
    cases hins;obtain ⟨j,j1,j2,j3,j4⟩:=hj (by simp) (by simp);have hJ:Jmp s2 t ⟨16,0,0,0,to⟩:=.inr (.inr rfl);refine fin j (ann t j).1 (ann t j).2 (fun _ _=>j1) (by simp) (by simp) trivial (by rw[hjmp j hJ]) ?_;show HInv K (s2.setP t j) _ _ _ _;rw[j2]
    exact ((hI2.cnew ht hpt (.inr ⟨rfl,rfl⟩) hd j3 j4.1 j4.2).up hNN).pc _ _
   ·
    cases hins;exact F (by decide) trivial rfl (hI2.cend ht hpt rfl ⟨rfl,fun _=>rfl⟩ (hn (by simp)))
   ·
    cases hins;exact F (by decide) trivial rfl (hI2.cend ht hpt rfl ⟨rfl,fun _=>rfl⟩ (hn (by simp)))
   ·
    cases hins;exact F (by decide) trivial rfl (hI2.cend ht hpt rfl ⟨rfl,fun _=>rfl⟩ (hn (by simp)))
   ·
    cases hins;obtain ⟨hqe,hsm,hm,hr,hd0⟩:=hn (by simp);obtain ⟨b1,b2,b3,b4,b5⟩:=hI2.top ht;exact F (by decide) (by show s2.here (s2.reg t 5)=true;rw[b1];exact b2) hqe (hI2.c81 ht hpt hd hd0 hsm hm hr)
   ·
    cases hins;obtain ⟨j,j1,j2,j3,j4⟩:=hj (by simp) (by simp);exact J14 rfl j j1 (fun hz=>by rw[j2];exact hI2.c82z ht hpt hd j3 j4 hz) (fun hz=>by obtain ⟨hqe,hsm,hm,hd0⟩:=hn (by simp);rw[hqe];exact hI2.c82 ht hpt hd hd0 hsm hm hz)
   ·
    cases hins;obtain ⟨hqe,hsm,hm,hd0⟩:=hn (by simp);exact F (by decide) (hI2.c83 ht hpt hd hd0 hsm hm).1 hqe ((hI2.c83 ht hpt hd hd0 hsm hm).2)
   ·
    cases hins;obtain ⟨hqe,hsm,hm,hd0⟩:=hn (by simp);exact F (by decide) trivial hqe (hI2.c84 ht hpt hd hd0 hsm hm)
   ·
    cases hins;have hnJ:¬Jmp s2 t _:=fun h=>absurd (hJop h) (by simp);obtain ⟨hqe,hsm,hm⟩:=hn (by simp);obtain ⟨b1,b2,b3,b4,b5⟩:=hI2.top ht;refine finG 0 (.cl 86 d) g (fun a b=>by simp at a b) (by simp) (by simp) (by show s2.here (s2.reg t 5)=true;rw[b1];exact b2) (by rw[hnoj 0 hnJ,hqe]) ?_
    by_cases he:s2.val K.top 0=s2.reg t 1
    ·obtain ⟨v,r,w0,w1,w2⟩:=hI2.c85s ht hpt hd hsm hm (hfen (by simp)) he;refine ⟨_,.take H t v r ht w0 w1,rfl,rfl,?_⟩;show HInv K ((if s2.val (s2.reg t 5) 0=s2.reg t 1 then s2.put ⟨s2.reg t 5,0,s2.reg t 2⟩else s2).setR t 1 (s2.val (s2.reg t 5) 0)) _ _ _ _;rw[if_pos (by rw[b1];exact he)]
     exact w2.up hNN
    ·refine ⟨H,.same H,rfl,rfl,?_⟩;show HInv K ((if s2.val (s2.reg t 5) 0=s2.reg t 1 then s2.put ⟨s2.reg t 5,0,s2.reg t 2⟩else s2).setR t 1 (s2.val (s2.reg t 5) 0)) _ _ _ _;rw[if_neg (by rw[b1];exact he),b1];exact (hI2.c85f ht hpt hd hsm hm he).up hNN
   ·
    cases hins;obtain ⟨j,j1,j2,j3,j4⟩:=hj (by simp) (by simp);exact J15 rfl j j1 (fun hz=>by rw[j2];exact hI2.c86j ht hpt hd j3 j4 hz) (fun hz=>by obtain ⟨hqe,hsm,hm,hr⟩:=hn (by simp);rw[hqe];exact hI2.c86 ht hpt hd hsm hm hr hz)
   ·
    cases hins;obtain ⟨j,j1,j2⟩:=hj (by simp) (by simp);have hJ:Jmp s2 t ⟨16,0,0,0,to⟩:=.inr (.inr rfl);refine fin j (ann t j).1 (ann t j).2 (fun _ _=>j1) (by simp) (by simp) trivial (by rw[hjmp j hJ]) ?_;show HInv K (s2.setP t j) _ _ _ _
    exact ((hI2.cend ht hpt rfl ⟨rfl,fun _=>rfl⟩ j2).up hNN).pc _ _
   ·
    cases hins;obtain ⟨hqe,hsm,hm⟩:=hn (by simp);exact F (by decide) trivial hqe (hI2.c88 ht hpt hd hsm hm)
   ·
    cases hins;obtain ⟨hqe,hsm,hm⟩:=hn (by simp);exact F (by decide) trivial hqe (hI2.c89 ht hpt hd hsm hm)
   ·
    cases hins;obtain ⟨j,j1,j2,j3,j4⟩:=hj (by simp) (by simp);exact J14 rfl j j1 (fun hz=>by rw[j2];exact hI2.c90z ht hpt hd j3 j4 hz) (fun hz=>by obtain ⟨hqe,hsm,hm⟩:=hn (by simp);rw[hqe];exact hI2.c90 ht hpt hd hsm hm hz)
   ·
    cases hins;obtain ⟨hqe,hsm,hm⟩:=hn (by simp);exact F (by decide) (hI2.own3 ht hpt (by decide)).1 hqe (hI2.c91 ht hpt hd hsm hm)
   ·
    cases hins;exact h3 (hn (by simp)) rfl rfl rfl
   ·
    cases hins;obtain ⟨k1,k2,k3,k4⟩:=hn (by simp);exact F (by decide) trivial rfl (hI2.c93 ht hpt k1 k2 k3 k4)
   ·
    cases hins;obtain ⟨j,j1,j2,j3,j4⟩:=hj (by simp) (by simp);exact J14 rfl j j1 (fun hz=>by rw[j2];exact hI2.c30z ht hpt hd j3 j4 hz) (fun hz=>by obtain ⟨hqe,hsm,hm⟩:=hn (by simp);rw[hqe];exact hI2.c30 ht hpt hd hsm hm hz)
   ·
    cases hins;obtain ⟨hqe,hsm,hm⟩:=hn (by simp);obtain ⟨b1,b2,b3,b4,b5⟩:=hI2.top ht;exact F (by decide) (by show s2.here (s2.reg t 5)=true;rw[b1];exact b2) hqe (hI2.c31 ht hpt hd hsm hm)
   ·
    cases hins;obtain ⟨hqe,hsm,hm⟩:=hn (by simp);obtain ⟨b1,b2,b3,b4,b5⟩:=hI2.top ht;exact F (by decide) (by show s2.here (s2.reg t 2)=true;rw[hI2.r2 ht hpt (by decide)];exact b5) hqe (hI2.c32 ht hpt hd hsm hm)
   ·
    cases hins;obtain ⟨hqe,hsm,hm⟩:=hn (by simp);exact F (by decide) (hI2.own3 ht hpt (by decide)).1 hqe (hI2.c33 ht hpt hd hsm hm)
   ·
    cases hins;obtain ⟨hqe,hsm,hm⟩:=hn (by simp);obtain ⟨b1,b2,b3,b4,b5⟩:=hI2.top ht;have b6:=hI2.r2 ht hpt (by decide);have hst:=hI2.c34 ht hpt hd hsm hm;rw[←b6]at hst;exact F (by decide) (by show s2.here (s2.reg t 2)=true;rw[b6];exact b5) hqe (hst)
   ·
    cases hins;obtain ⟨hqe,hsm,hm⟩:=hn (by simp);exact F (by decide) trivial hqe (hI2.c35 ht hpt hd hsm hm)
   ·
    cases hins;exact F (by decide) trivial rfl (hI2.cend ht hpt rfl ⟨rfl,fun _=>rfl⟩ (hn (by simp)))
   ·
    cases hins;obtain ⟨hqe,hsm,hm,hm2⟩:=hn (by simp);obtain ⟨b1,b2,b3,b4,b5⟩:=hI2.top ht;exact F (by decide) (by show s2.here (s2.reg t 5)=true;rw[b1];exact b2) hqe (hI2.c40 ht hpt hd hsm hm hm2)
   ·
    cases hins;obtain ⟨hqe,hsm,hm,hm2⟩:=hn (by simp);exact F (by decide) trivial hqe (hI2.c41 ht hpt hd hsm hm hm2 (.inl ⟨rfl,rfl⟩))
   ·
    cases hins;obtain ⟨hqe,hsm,hm,hm2⟩:=hn (by simp);obtain ⟨b1,b2,b3,b4,b5⟩:=hI2.top ht;exact F (by decide) (by show s2.here (s2.reg t 2)=true;rw[hI2.r2 ht hpt (by decide)];exact b5) hqe (hI2.c42 ht hpt hd hsm hm hm2)
   ·
    cases hins;obtain ⟨j,j1,j2,j3,j4,j5⟩:=hj (by simp) (by simp);exact J14 rfl j j1 (fun hz=>by rw[j2];exact hI2.c43z ht hpt hd j3 j4 j5) (fun hz=>by obtain ⟨hqe,hsm,hm,hm2⟩:=hn (by simp);rw[hqe];exact hI2.c43 ht hpt hd hsm hm hm2 hz)
   ·
    cases hins;obtain ⟨hqe,hsm,hm,hm2⟩:=hn (by simp);exact F (by decide) (hI2.c44 ht hpt hd hsm hm hm2).1 hqe ((hI2.c44 ht hpt hd hsm hm hm2).2)
   ·
    cases hins;obtain ⟨hqe,hsm,hm,hm2⟩:=hn (by simp);obtain ⟨b1,b2,b3,b4,b5⟩:=hI2.top ht;have b6:=hI2.r2 ht hpt (by decide);have hst:=hI2.c45 ht hpt hd hsm hm hm2;rw[←b6]at hst;exact F (by decide) (by show s2.here (s2.reg t 2)=true;rw[b6];exact b5) hqe (hst)
   ·
    cases hins;obtain ⟨hqe,hsm,hm,hm2⟩:=hn (by simp);exact F (by decide) (hI2.c46 ht hpt hd hsm hm hm2 (hfen (by simp))).1 hqe ((hI2.c46 ht hpt hd hsm hm hm2 (hfen (by simp))).2)
   ·
    cases hins;obtain ⟨j,j1,j2,j3,j4,j5⟩:=hj (by simp) (by simp);have hJ:Jmp s2 t ⟨16,0,0,0,to⟩:=.inr (.inr rfl);refine fin j (ann t j).1 (ann t j).2 (fun _ _=>j1) (by simp) (by simp) trivial (by rw[hjmp j hJ]) ?_;show HInv K (s2.setP t j) _ _ _ _;rw[j2]
    exact ((hI2.c41 ht hpt hd j3 j4 j5 (.inr ⟨rfl,rfl⟩)).up hNN).pc _ _
   ·
    cases hins;exact F (by decide) trivial rfl (hI2.cend ht hpt rfl ⟨rfl,fun _=>rfl⟩ (hn (by simp)))
   ·cases hins
theorem GoodP.turn(G:GoodP K code ann G0 N m)(h0:0≤N)(hN:N<1000000)(hnum:G0.num K.X.n<500)(hn:0<K.X.n)(O:∀r,r<K.X.n→K.X.own r≠0)(hl:∀t,t<K.X.n→∀i x,(code t)[i]?=some x→LineP K t (code t) (ann t) i x)(k:Int):GoodP K code ann G0 (N+1) (m.turn k).1:=by
 have hT:=G.W.T;have h1:=Int.emod_lt_of_pos k (show (0:Int)<2*(m.T.length:Int) by omega);have h2:=Int.emod_nonneg k (show (2*(m.T.length:Int))≠0 by omega);unfold M.turn;simp only[]
 split
 ·rename_i hk
  rw[hT]at hk;exact G.step h0 hN hnum (by rw[hT];exact hk) O (hl _ (by rw[hT];exact hk))
 ·rename_i hk
  exact G.drain h0 _ (by omega)
theorem GoodP.run(hnum:G0.num K.X.n<500)(hn:0<K.X.n)(O:∀r,r<K.X.n→K.X.own r≠0)(hl:∀t,t<K.X.n→∀i x,(code t)[i]?=some x→LineP K t (code t) (ann t) i x):∀(l:List Int) {N:Int} {m:M},GoodP K code ann G0 N m→0≤N→N+l.length≤1000000→GoodP K code ann G0 (N+l.length) (m.run l).1
 |[],N,m,G,_,_=>by
  show GoodP K code ann G0 (N+((0:Nat):Int)) m;rw[show N+((0:Nat):Int)=N by omega];exact G
 |k :: l,N,m,G,h0,h=>by
  simp only[List.length_cons]at h ⊢;have:=GoodP.run hnum hn O hl l (G.turn h0 (by omega) hnum hn O hl k) (by omega) (by omega);rw[show N+((l.length+1:Nat):Int)=N+1+(l.length:Int) by omega];exact this
end Qp
end
