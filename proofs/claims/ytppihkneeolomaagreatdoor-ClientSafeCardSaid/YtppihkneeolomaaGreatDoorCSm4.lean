/- Texts that belong together, joined. -/
import Derived.Test.YtppihkneeolomaaGreatDoorCSm1
set_option linter.unusedVariables false
set_option linter.unusedSimpArgs false
set_option linter.unusedSectionVars false
set_option maxHeartbeats 2000000
section
namespace Qg
open Qs
variable {X:Cx}{s s':A}{p:Nat→Pos}{old old':Nat→Nat→Prop}{L L':List Nat}{B:Int}{t u:Nat}
def Jmp(s:A)(t:Nat)(x:Instr):Prop:=(x.op=14∧s.reg t x.A.toNat=0)∨(x.op=15∧s.reg t x.A.toNat=s.reg t x.B.toNat)∨x.op=16
def NextOk(f:Nat)(P q:Pos):Prop:=match fallOf f P with
 |some q'=>q=q'
 |none=>∃d,startD f q=some d∧d<100∧(f≠3→d=dOut P)∧(P=.gn 2→q=.fin)
theorem Th.pc{P:Pos}(h:Th X s old L u P)(k:Nat):Th X (s.setP t k) old L u P:=⟨h.r6,h.r7,h.buf,h.vw,h.rng,h.sec,h.il,h.nb,h.ok,h.a,h.c,h.b⟩
theorem Core.pc(C:Core X s p old L B)(t k:Nat):Core X (s.setP t k) p old L B:=⟨fun u hu=>(C.th u hu).pc k,C.lock,C.h0,C.h3,C.hb3,C.ch,C.all,C.j,C.old⟩
theorem Core.step(C:Core X s p old L B)(ht:t<X.n){x:Instr}(hx:insOf X.f (p t)=some (x.op,x.A,x.B,x.C))
  (hb:x.op=9∨x.op=12→s.buf t=[]) (hb2:x.op=13→∀u,u<X.n→s.buf u=[]) (O:∀r,r<X.n→X.own r≠0) (hB:B<4000000000) {q:Pos}
  (hj:Jmp s t x→q=tgtOf (p t)) (hf:¬Jmp s t x→NextOk X.f (p t) q) (tg:Nat):Core X (s.ex t x tg) (upd p t q) old L (B+2):=by
 obtain ⟨op,xa,xb,xc,to⟩:=x
 have T:=C.th t ht
 have Ta:=T.a
 have Tb:=T.b
 have hup:B≤B+2:=by omega
 have r6:=T.r6
 have r7:=T.r7
 simp only at hx hb hb2
 cases hp:p t with
 |fin=>rw[hp]at hx;cases hx
 |cl c d=>rw[hp]at hx;cases hx
 |dead=>rw[hp]at hx;cases hx
 |ent d j=>
  rw[hp]at hx hj hf Ta Tb
  match j,hp,hx,hj,hf,Ta,Tb with
  |0,hp,hx,hj,hf,Ta,Tb=>
   cases hx
   have hq:q=.ent d 1:=hf (by simp[Jmp])
   rw[hq]
   exact (g_ent0 C ht hp (v:=s.vw t (s.reg t 6) 0) (by rw[r6])).up hup
  |1,hp,hx,hj,hf,Ta,Tb=>
   cases hx
   have hq:q=.ent d 2:=hf (by simp[Jmp])
   rw[hq]
   exact (g_ent1 C ht hp rfl).up hup
  |2,hp,hx,hj,hf,Ta,Tb=>
   cases hx
   have hq:q=.ent d 3:=hf (by simp[Jmp])
   rw[hq]
   exact (g_ent2 C ht hp rfl).up hup
  |3,hp,hx,hj,hf,Ta,Tb=>
   cases hx
   by_cases h0:s.reg t 1=0
   ·have hq:q=.ent d 8:=hj (by simp[Jmp];exact h0)
    rw[hq]
    rw[show s.ex t ⟨14,1,0,0,to⟩ tg=s.setP t tg from if_pos h0]
    exact ((g_ent3j C ht hp h0).up hup).pc t tg
   ·have hq:q=.ent d 4:=hf (by simp[Jmp];exact h0)
    rw[hq]
    rw[show s.ex t ⟨14,1,0,0,to⟩ tg=s from if_neg h0]
    exact (g_ent3f C ht hp h0).up hup
  |4,hp,hx,hj,hf,Ta,Tb=>
   cases hx
   have hq:q=.ent d 5:=hf (by simp[Jmp])
   rw[hq]
   exact (g_ent4 C ht hp rfl).up hup
  |5,hp,hx,hj,hf,Ta,Tb=>
   cases hx
   have hq:q=.ent d 6:=hf (by simp[Jmp])
   rw[hq]
   exact (g_ent5 C ht hp rfl).up hup
  |6,hp,hx,hj,hf,Ta,Tb=>
   cases hx
   have hq:q=.ent d 7:=hf (by simp[Jmp])
   rw[hq]
   rw[show s.ex t ⟨7,6,0,0,to⟩ tg=s.setB t (s.buf t++[⟨s.reg t 6,0,s.reg t 0⟩])from rfl,r6]
   exact (g_ent6 C ht hp rfl).up hup
  |7,hp,hx,hj,hf,Ta,Tb=>
   cases hx
   have hq:q=.ent d 12:=hj (by simp[Jmp])
   rw[hq]
   exact ((g_ent7 C ht hp).up hup).pc t tg
  |8,hp,hx,hj,hf,Ta,Tb=>
   cases hx
   have hq:q=.ent d 9:=hf (by simp[Jmp])
   rw[hq]
   exact (g_ent8 C ht hp).up hup
  |9,hp,hx,hj,hf,Ta,Tb=>
   cases hx
   have hq:q=.ent d 10:=hf (by simp[Jmp])
   rw[hq]
   exact (g_ent9 C ht hp (v:=s.vw t (s.reg t 7) 0) (by rw[r7])).up hup
  |10,hp,hx,hj,hf,Ta,Tb=>
   cases hx
   have hq:q=.ent d (if X.f=2 then 12 else 11):=hf (by simp[Jmp])
   rw[hq]
   rw[show s.ex t ⟨7,6,0,0,to⟩ tg=s.setB t (s.buf t++[⟨s.reg t 6,0,s.reg t 0⟩])from rfl,r6]
   exact (g_ent10 C ht hp rfl).up hup
  |11,hp,hx,hj,hf,Ta,Tb=>
   cases hx
   have hq:q=.ent d 12:=hf (by simp[Jmp])
   rw[hq]
   exact (g_ent11 C ht hp (hb (by simp))).up hup
  |12,hp,hx,hj,hf,Ta,Tb=>
   cases hx
   obtain ⟨d0,hq,hd,hd2,_⟩:∃d0,startD X.f q=some d0∧d0<100∧(X.f≠3→d0=dOut (.ent d 12))∧((.ent d 12:Pos)=.gn 2→q=.fin):=hf (by simp[Jmp])
   have he:d0=d+1:=hd2 Tb
   subst he
   exact (g_ent12 C ht hp hq hd).up hup
  |j+13,hp,hx,hj,hf,Ta,Tb=>cases hx
 |lea d j=>
  rw[hp]at hx hj hf Ta Tb
  match j,hp,hx,hj,hf,Ta,Tb with
  |0,hp,hx,hj,hf,Ta,Tb=>
   cases hx
   have hq:q=.lea d 1:=hf (by simp[Jmp])
   rw[hq]
   exact (g_lea0 C ht hp).up hup
  |1,hp,hx,hj,hf,Ta,Tb=>
   cases hx
   have hq:q=.lea d 2:=hf (by simp[Jmp])
   rw[hq]
   exact (g_lea1 C ht hp (v:=s.vw t (s.reg t 6) 0) (by rw[r6])).up hup
  |2,hp,hx,hj,hf,Ta,Tb=>
   cases hx
   have hq:q=.lea d 3:=hf (by simp[Jmp])
   rw[hq]
   exact (g_lea2 C ht hp rfl).up hup
  |3,hp,hx,hj,hf,Ta,Tb=>
   cases hx
   have hq:q=.lea d 4:=hf (by simp[Jmp])
   rw[hq]
   exact (g_lea3 C ht hp rfl).up hup
  |4,hp,hx,hj,hf,Ta,Tb=>
   cases hx
   obtain ⟨d0,hq,hd,hd2,_⟩:∃d0,startD X.f q=some d0∧d0<100∧(X.f≠3→d0=dOut (.lea d 4))∧((.lea d 4:Pos)=.gn 2→q=.fin):=hf (by simp[Jmp])
   have he:d0=d - 1:=hd2 Tb
   subst he
   rw[show s.ex t ⟨7,6,0,0,to⟩ tg=s.setB t (s.buf t++[⟨s.reg t 6,0,s.reg t 0⟩])from rfl,r6]
   exact (g_lea4 C ht hp rfl hq hd).up hup
  |j+5,hp,hx,hj,hf,Ta,Tb=>cases hx
 |jh d j=>
  rw[hp]at hx hj hf Ta Tb
  match j,hp,hx,hj,hf,Ta,Tb with
  |0,hp,hx,hj,hf,Ta,Tb=>
   cases hx
   have hq:q=.jh d 1:=hf (by simp[Jmp])
   rw[hq]
   exact (g_jh0 C ht hp (v:=s.vw t (s.reg t 6) 2) (by rw[r6])).up hup
  |1,hp,hx,hj,hf,Ta,Tb=>
   cases hx
   by_cases h0:s.reg t 0=0
   ·by_cases hd:d=0
    ·subst hd
     have hq:q=.jh 0 3:=hj (by simp[Jmp];exact h0)
     rw[hq]
     rw[show s.ex t ⟨14,0,0,0,to⟩ tg=s.setP t tg from if_pos h0]
     exact ((g_jh1j C ht hp h0).up hup).pc t tg
    ·exact (g_jh1d C ht (by omega) hp h0).elim
   ·have hq:q=.jh d 2:=hf (by simp[Jmp];exact h0)
    rw[hq]
    rw[show s.ex t ⟨14,0,0,0,to⟩ tg=s from if_neg h0]
    exact (g_jh1f C ht hp h0).up hup
  |2,hp,hx,hj,hf,Ta,Tb=>
   cases hx
   have hq:q=.jk d:=hj (by simp[Jmp])
   rw[hq]
   exact ((g_jh2 C ht hp).up hup).pc t tg
  |3,hp,hx,hj,hf,Ta,Tb=>
   cases hx
   have hd:d=0:=(Tb.2.2.1 rfl).2
   subst hd
   have hq:q=.tk 0 0:=hf (by simp[Jmp])
   rw[hq]
   exact (g_jh3 C ht hp).up hup
  |j+4,hp,hx,hj,hf,Ta,Tb=>cases hx
 |jc j=>
  rw[hp]at hx hj hf Ta Tb
  match j,hp,hx,hj,hf,Ta,Tb with
  |0,hp,hx,hj,hf,Ta,Tb=>
   cases hx
   have hq:q=.jc 1:=hf (by simp[Jmp])
   rw[hq]
   exact (g_jc0 C ht hp (v:=s.vw t (s.reg t 7) 2) (by rw[r7])).up hup
  |1,hp,hx,hj,hf,Ta,Tb=>
   cases hx
   have hq:q=.jc 2:=hf (by simp[Jmp])
   rw[hq]
   rw[show s.ex t ⟨7,6,0,1,to⟩ tg=s.setB t (s.buf t++[⟨s.reg t 6,1,s.reg t 0⟩])from rfl,r6]
   exact (g_jc1 C ht hp rfl).up hup
  |2,hp,hx,hj,hf,Ta,Tb=>
   cases hx
   have hq:q=.jc 3:=hf (by simp[Jmp])
   rw[hq]
   rw[show s.ex t ⟨7,7,6,2,to⟩ tg=s.setB t (s.buf t++[⟨s.reg t 7,2,s.reg t 6⟩])from rfl,r7]
   exact (g_jc2 C ht hp rfl).up hup
  |3,hp,hx,hj,hf,Ta,Tb=>
   cases hx
   have hq:q=.jc 4:=hf (by simp[Jmp])
   rw[hq]
   exact (g_jc3 C ht hp rfl).up hup
  |4,hp,hx,hj,hf,Ta,Tb=>
   cases hx
   have hq:q=.gv 0 0:=hf (by simp[Jmp])
   rw[hq]
   rw[show s.ex t ⟨7,6,0,2,to⟩ tg=s.setB t (s.buf t++[⟨s.reg t 6,2,s.reg t 0⟩])from rfl,r6]
   exact (g_jc4 C ht hp rfl).up hup
  |j+5,hp,hx,hj,hf,Ta,Tb=>cases hx
 |jk d=>
  rw[hp]at hx hj hf
  cases hx
  have hq:q=.ent d 0:=hf (by simp[Jmp])
  rw[hq]
  exact (g_jk C ht hp).up hup
 |tk k j=>
  rw[hp]at hx hj hf Ta Tb
  have hk3:k<3:=Tb.2.2.2
  match k,j,hk3,hp,hx,hj,hf,Ta,Tb with
  |0,0,hk3,hp,hx,hj,hf,Ta,Tb=>
   cases hx
   have hq:q=.tk 0 1:=hf (by simp[Jmp])
   rw[hq]
   exact (g_tk0 C ht hp).up hup
  |0,1,hk3,hp,hx,hj,hf,Ta,Tb=>
   cases hx
   have hq:q=.tk 0 2:=hf (by simp[Jmp])
   rw[hq]
   exact (g_tk1 C ht hp rfl).up hup
  |0,2,hk3,hp,hx,hj,hf,Ta,Tb=>
   cases hx
   have hq:q=.tk 0 3:=hf (by simp[Jmp])
   rw[hq]
   exact (g_tk2 C ht hp rfl).up hup
  |0,3,hk3,hp,hx,hj,hf,Ta,Tb=>
   cases hx
   have hq:q=.tk 0 4:=hf (by simp[Jmp])
   rw[hq]
   rw[show s.ex t ⟨9,7,0,1,to⟩ tg=(if s.val (s.reg t 7) 1=s.reg t 0 then s.put ⟨s.reg t 7,1,s.reg t 1⟩else s).setR t 0 (s.val (s.reg t 7) 1)from rfl,r7]
   exact (g_cas C ht hp (hb (by simp))).up hup
  |0,4,hk3,hp,hx,hj,hf,Ta,Tb=>
   cases hx
   by_cases h0:s.reg t 0=0
   ·have hq:q=.tk 0 6:=hj (by simp[Jmp];exact h0)
    rw[hq]
    rw[show s.ex t ⟨14,0,0,0,to⟩ tg=s.setP t tg from if_pos h0]
    exact ((g_tk4j C ht hp h0).up hup).pc t tg
   ·have hq:q=.tk 0 5:=hf (by simp[Jmp];exact h0)
    rw[hq]
    rw[show s.ex t ⟨14,0,0,0,to⟩ tg=s from if_neg h0]
    exact (g_tk4f C ht hp h0).up hup
  |0,5,hk3,hp,hx,hj,hf,Ta,Tb=>
   cases hx
   have hq:q=.tk 0 0:=hj (by simp[Jmp])
   rw[hq]
   exact ((g_tk5 C ht hp).up hup).pc t tg
  |0,6,hk3,hp,hx,hj,hf,Ta,Tb=>
   cases hx
   have hq:q=.jc 0:=hf (by simp[Jmp])
   rw[hq]
   exact (g_tk60 C ht hp).up hup
  |1,0,hk3,hp,hx,hj,hf,Ta,Tb=>
   cases hx
   have hq:q=.tk 1 1:=hf (by simp[Jmp])
   rw[hq]
   exact (g_tk0 C ht hp).up hup
  |1,1,hk3,hp,hx,hj,hf,Ta,Tb=>
   cases hx
   have hq:q=.tk 1 2:=hf (by simp[Jmp])
   rw[hq]
   exact (g_tk1 C ht hp rfl).up hup
  |1,2,hk3,hp,hx,hj,hf,Ta,Tb=>
   cases hx
   have hq:q=.tk 1 3:=hf (by simp[Jmp])
   rw[hq]
   exact (g_tk2 C ht hp rfl).up hup
  |1,3,hk3,hp,hx,hj,hf,Ta,Tb=>
   cases hx
   have hq:q=.tk 1 4:=hf (by simp[Jmp])
   rw[hq]
   rw[show s.ex t ⟨9,7,0,1,to⟩ tg=(if s.val (s.reg t 7) 1=s.reg t 0 then s.put ⟨s.reg t 7,1,s.reg t 1⟩else s).setR t 0 (s.val (s.reg t 7) 1)from rfl,r7]
   exact (g_cas C ht hp (hb (by simp))).up hup
  |1,4,hk3,hp,hx,hj,hf,Ta,Tb=>
   cases hx
   by_cases h0:s.reg t 0=0
   ·have hq:q=.tk 1 6:=hj (by simp[Jmp];exact h0)
    rw[hq]
    rw[show s.ex t ⟨14,0,0,0,to⟩ tg=s.setP t tg from if_pos h0]
    exact ((g_tk4j C ht hp h0).up hup).pc t tg
   ·have hq:q=.tk 1 5:=hf (by simp[Jmp];exact h0)
    rw[hq]
    rw[show s.ex t ⟨14,0,0,0,to⟩ tg=s from if_neg h0]
    exact (g_tk4f C ht hp h0).up hup
  |1,5,hk3,hp,hx,hj,hf,Ta,Tb=>
   cases hx
   have hq:q=.tk 1 0:=hj (by simp[Jmp])
   rw[hq]
   exact ((g_tk5 C ht hp).up hup).pc t tg
  |1,6,hk3,hp,hx,hj,hf,Ta,Tb=>
   cases hx
   have hq:q=.wn false 0:=hf (by simp[Jmp])
   rw[hq]
   exact (g_tk61 C ht hp).up hup
  |2,0,hk3,hp,hx,hj,hf,Ta,Tb=>
   cases hx
   have hq:q=.tk 2 1:=hf (by simp[Jmp])
   rw[hq]
   exact (g_tk0 C ht hp).up hup
  |2,1,hk3,hp,hx,hj,hf,Ta,Tb=>
   cases hx
   have hq:q=.tk 2 2:=hf (by simp[Jmp])
   rw[hq]
   exact (g_tk1 C ht hp rfl).up hup
  |2,2,hk3,hp,hx,hj,hf,Ta,Tb=>
   cases hx
   have hq:q=.tk 2 3:=hf (by simp[Jmp])
   rw[hq]
   exact (g_tk2 C ht hp rfl).up hup
  |2,3,hk3,hp,hx,hj,hf,Ta,Tb=>
   cases hx
   have hq:q=.tk 2 4:=hf (by simp[Jmp])
   rw[hq]
   rw[show s.ex t ⟨9,7,0,1,to⟩ tg=(if s.val (s.reg t 7) 1=s.reg t 0 then s.put ⟨s.reg t 7,1,s.reg t 1⟩else s).setR t 0 (s.val (s.reg t 7) 1)from rfl,r7]
   exact (g_cas C ht hp (hb (by simp))).up hup
  |2,4,hk3,hp,hx,hj,hf,Ta,Tb=>
   cases hx
   by_cases h0:s.reg t 0=0
   ·have hq:q=.tk 2 6:=hj (by simp[Jmp];exact h0)
    rw[hq]
    rw[show s.ex t ⟨14,0,0,0,to⟩ tg=s.setP t tg from if_pos h0]
    exact ((g_tk4j C ht hp h0).up hup).pc t tg
   ·have hq:q=.tk 2 5:=hf (by simp[Jmp];exact h0)
    rw[hq]
    rw[show s.ex t ⟨14,0,0,0,to⟩ tg=s from if_neg h0]
    exact (g_tk4f C ht hp h0).up hup
  |2,5,hk3,hp,hx,hj,hf,Ta,Tb=>
   cases hx
   have hq:q=.tk 2 0:=hj (by simp[Jmp])
   rw[hq]
   exact ((g_tk5 C ht hp).up hup).pc t tg
  |2,6,hk3,hp,hx,hj,hf,Ta,Tb=>
   cases hx
   have hq:q=.cs 0:=hf (by simp[Jmp])
   rw[hq]
   exact (g_tk62 C ht hp).up hup
  |k+3,j,hk3,hp,hx,hj,hf,Ta,Tb=>omega
  |0,j+7,hk3,hp,hx,hj,hf,Ta,Tb=>cases hx
  |1,j+7,hk3,hp,hx,hj,hf,Ta,Tb=>cases hx
  |2,j+7,hk3,hp,hx,hj,hf,Ta,Tb=>cases hx
 |gv k j=>
  rw[hp]at hx hj hf Ta Tb
  have hk3:k<3:=by
   by_cases hk:k=0
   ·omega
   ·have Tb':(if k=0 then X.LGv0 (s.reg t) (s.buf t) s.val L t j else X.LGv (s.reg t) (s.buf t) (old t) k j):=Tb
    rw[if_neg hk]at Tb'
    have:=Tb'.1
    omega
  match k,j,hk3,hp,hx,hj,hf,Ta,Tb with
  |0,0,hk3,hp,hx,hj,hf,Ta,Tb=>
   cases hx
   have hq:q=.gv 0 1:=hf (by simp[Jmp])
   rw[hq]
   exact (g_gv00 C ht hp rfl).up hup
  |0,1,hk3,hp,hx,hj,hf,Ta,Tb=>
   cases hx
   have hq:q=.gv 0 2:=hf (by simp[Jmp])
   rw[hq]
   rw[show s.ex t ⟨7,7,0,1,to⟩ tg=s.setB t (s.buf t++[⟨s.reg t 7,1,s.reg t 0⟩])from rfl,r7]
   exact (g_gv01 C ht hp rfl).up hup
  |0,2,hk3,hp,hx,hj,hf,Ta,Tb=>
   cases hx
   have hq:q=.jk 0:=hf (by simp[Jmp])
   rw[hq]
   exact (g_gv02 C ht hp (hb (by simp))).up hup
  |1,0,hk3,hp,hx,hj,hf,Ta,Tb=>
   cases hx
   have hq:q=.gv 1 1:=hf (by simp[Jmp])
   rw[hq]
   exact (g_gv0 C ht hp (by omega) rfl).up hup
  |1,1,hk3,hp,hx,hj,hf,Ta,Tb=>
   cases hx
   have hq:q=.gv 1 2:=hf (by simp[Jmp])
   rw[hq]
   rw[show s.ex t ⟨7,7,0,1,to⟩ tg=s.setB t (s.buf t++[⟨s.reg t 7,1,s.reg t 0⟩])from rfl,r7]
   exact (g_gv1 C ht hp (by omega) rfl).up hup
  |1,2,hk3,hp,hx,hj,hf,Ta,Tb=>
   cases hx
   obtain ⟨d0,hq,hd,hd2,_⟩:∃d0,startD X.f q=some d0∧d0<100∧(X.f≠3→d0=dOut (.gv 1 2))∧((.gv 1 2:Pos)=.gn 2→q=.fin):=hf (by simp[Jmp])
   have Tb':X.LGv (s.reg t) (s.buf t) (old t) 1 2:=Tb
   have f3:X.f≠3:=by rcases Tb'.1 with h|h <;> omega
   have he:d0=0:=hd2 f3
   subst he
   exact (g_gv12 C ht hp (hb (by simp)) hq).up hup
  |2,0,hk3,hp,hx,hj,hf,Ta,Tb=>
   cases hx
   have hq:q=.gv 2 1:=hf (by simp[Jmp])
   rw[hq]
   exact (g_gv0 C ht hp (by omega) rfl).up hup
  |2,1,hk3,hp,hx,hj,hf,Ta,Tb=>
   cases hx
   have hq:q=.gv 2 2:=hf (by simp[Jmp])
   rw[hq]
   rw[show s.ex t ⟨7,7,0,1,to⟩ tg=s.setB t (s.buf t++[⟨s.reg t 7,1,s.reg t 0⟩])from rfl,r7]
   exact (g_gv1 C ht hp (by omega) rfl).up hup
  |2,2,hk3,hp,hx,hj,hf,Ta,Tb=>
   cases hx
   have hq:q=.cr 0:=hf (by simp[Jmp])
   rw[hq]
   exact (g_gv22 C ht hp (hb (by simp))).up hup
  |k+3,j,hk3,hp,hx,hj,hf,Ta,Tb=>omega
  |0,j+3,hk3,hp,hx,hj,hf,Ta,Tb=>cases hx
  |1,j+3,hk3,hp,hx,hj,hf,Ta,Tb=>cases hx
  |2,j+3,hk3,hp,hx,hj,hf,Ta,Tb=>cases hx
 |wb=>
  rw[hp]at hx hj hf
  have hx2:some ((barOp X.f:Nat),(0:Int),(0:Int),(0:Int))=some (op,xa,xb,xc):=hx
  cases hx2
  have hq:q=.tk 1 0:=hf (by simp[Jmp,barOp];split <;> simp)
  rw[hq]
  have he:s.ex t ⟨barOp X.f,0,0,0,to⟩ tg=s:=by
   unfold barOp
   split <;> rfl
  rw[he]
  have hbb:s.buf t=[]:=by
   by_cases f2:X.f=2
   ·exact hb2 (by unfold barOp;rw[if_pos f2]) t ht
   ·exact hb (.inr (by unfold barOp;rw[if_neg f2]))
  exact (g_wb C ht hp hbb (fun f2=>hb2 (by unfold barOp;rw[if_pos f2]))).up hup
 |we=>
  rw[hp]at hx hj hf
  have hx2:some ((barOp X.f:Nat),(0:Int),(0:Int),(0:Int))=some (op,xa,xb,xc):=hx
  cases hx2
  have hq:q=.gv 1 0:=hf (by simp[Jmp,barOp];split <;> simp)
  rw[hq]
  have he:s.ex t ⟨barOp X.f,0,0,0,to⟩ tg=s:=by
   unfold barOp
   split <;> rfl
  rw[he]
  have hbb:s.buf t=[]:=by
   by_cases f2:X.f=2
   ·exact hb2 (by unfold barOp;rw[if_pos f2]) t ht
   ·exact hb (.inr (by unfold barOp;rw[if_neg f2]))
  exact (g_we C ht hp).up hup
 |wn g j=>
  rw[hp]at hx hj hf Ta Tb
  have hg:∀j,j≠22→j≠7→fallOf X.f (.wn g j)=some (.wn g (j+1)):=fun j h1 h2=>by
   cases g <;> (unfold fallOf;split <;> simp_all)
  match j,hp,hx,hj,hf,Ta,Tb with
  |0,hp,hx,hj,hf,Ta,Tb=>
   cases hx
   have hq:q=.wn g 1:=by have:=hf (by simp[Jmp]);unfold NextOk at this;rw[hg _ (by omega) (by omega)]at this;exact this
   rw[hq]
   exact (g_wn0 C ht hp (v:=s.vw t (s.reg t 7) 0) (by rw[r7])).up hup
  |1,hp,hx,hj,hf,Ta,Tb=>
   cases hx
   have hq:q=.wn g 2:=by have:=hf (by simp[Jmp]);unfold NextOk at this;rw[hg _ (by omega) (by omega)]at this;exact this
   rw[hq]
   exact (g_wn1 C ht hp rfl).up hup
  |2,hp,hx,hj,hf,Ta,Tb=>
   cases hx
   have hq:q=.wn g 3:=by have:=hf (by simp[Jmp]);unfold NextOk at this;rw[hg _ (by omega) (by omega)]at this;exact this
   rw[hq]
   exact (g_wn2 C ht hp rfl).up hup
  |3,hp,hx,hj,hf,Ta,Tb=>
   cases hx
   have hq:q=.wn g 4:=by have:=hf (by simp[Jmp]);unfold NextOk at this;rw[hg _ (by omega) (by omega)]at this;exact this
   rw[hq]
   rw[show s.ex t ⟨7,7,0,0,to⟩ tg=s.setB t (s.buf t++[⟨s.reg t 7,0,s.reg t 0⟩])from rfl,r7]
   exact (g_wn3 C ht hp rfl).up hup
  |4,hp,hx,hj,hf,Ta,Tb=>
   have hx2:some ((barOp X.f:Nat),(0:Int),(0:Int),(0:Int))=some (op,xa,xb,xc):=hx
   cases hx2
   have hq:q=.wn g 5:=by have:=hf (by simp[Jmp,barOp];split <;> simp);unfold NextOk at this;rw[hg _ (by omega) (by omega)]at this;exact this
   rw[hq]
   have he:s.ex t ⟨barOp X.f,0,0,0,to⟩ tg=s:=by
    unfold barOp
    split <;> rfl
   rw[he]
   have hbb:s.buf t=[]:=by
    by_cases f2:X.f=2
    ·exact hb2 (by unfold barOp;rw[if_pos f2]) t ht
    ·exact hb (.inr (by unfold barOp;rw[if_neg f2]))
   exact (g_wn4 C ht hp hbb).up hup
  |5,hp,hx,hj,hf,Ta,Tb=>
   cases hx
   have hq:q=.wn g 6:=by have:=hf (by simp[Jmp]);unfold NextOk at this;rw[hg _ (by omega) (by omega)]at this;exact this
   rw[hq]
   exact (g_wn5 C ht hp (v:=s.vw t (s.reg t 7) 2) (by rw[r7])).up hup
  |6,hp,hx,hj,hf,Ta,Tb=>
   cases hx
   have hq:q=.wn g 7:=by have:=hf (by simp[Jmp]);unfold NextOk at this;rw[hg _ (by omega) (by omega)]at this;exact this
   rw[hq]
   exact (g_wn6 C ht hp).up hup
  |7,hp,hx,hj,hf,Ta,Tb=>
   cases hx
   by_cases h0:s.reg t 2=0
   ·have hq:q=.wn g 22:=hj (by simp[Jmp];exact h0)
    rw[hq]
    rw[show s.ex t ⟨14,2,0,0,to⟩ tg=s.setP t tg from if_pos h0]
    exact ((g_wn7j C ht hp h0 O).up hup).pc t tg
   ·have hq:q=.wx g 8:=by cases g <;> exact hf (by simp[Jmp];exact h0)
    rw[hq]
    rw[show s.ex t ⟨14,2,0,0,to⟩ tg=s from if_neg h0]
    exact (g_wn7f C ht hp h0).up hup
  |8,hp,hx,hj,hf,Ta,Tb=>
   cases hx
  |9,hp,hx,hj,hf,Ta,Tb=>
   cases hx
  |10,hp,hx,hj,hf,Ta,Tb=>
   cases hx
  |11,hp,hx,hj,hf,Ta,Tb=>
   cases hx
  |12,hp,hx,hj,hf,Ta,Tb=>
   cases hx
  |13,hp,hx,hj,hf,Ta,Tb=>
   cases hx
  |14,hp,hx,hj,hf,Ta,Tb=>
   cases hx
  |15,hp,hx,hj,hf,Ta,Tb=>
   cases hx
  |16,hp,hx,hj,hf,Ta,Tb=>
   cases hx
  |17,hp,hx,hj,hf,Ta,Tb=>
   cases hx
  |18,hp,hx,hj,hf,Ta,Tb=>
   cases hx
  |19,hp,hx,hj,hf,Ta,Tb=>
   cases hx
  |20,hp,hx,hj,hf,Ta,Tb=>
   cases hx
  |21,hp,hx,hj,hf,Ta,Tb=>
   cases hx
   have hq:q=.wn g 6:=hj (by simp[Jmp])
   rw[hq]
   exact ((g_wn21 C ht hp).up hup).pc t tg
  |22,hp,hx,hj,hf,Ta,Tb=>
   cases hx
   cases g with
   |false=>
    have hq:q=.wn true 0:=hf (by simp[Jmp])
    rw[hq]
    exact (g_wn22f C ht hp).up hup
   |true=>
    have hq:q=.we:=hf (by simp[Jmp])
    rw[hq]
    exact (g_wn22t C ht hp).up hup
  |j+23,hp,hx,hj,hf,Ta,Tb=>cases hx
 |wx g j=>
  rw[hp]at hx hj hf Ta Tb
  match j,hp,hx,hj,hf,Ta,Tb with
  |0,hp,hx,hj,hf,Ta,Tb=>
   cases hx
  |1,hp,hx,hj,hf,Ta,Tb=>
   cases hx
  |2,hp,hx,hj,hf,Ta,Tb=>
   cases hx
  |3,hp,hx,hj,hf,Ta,Tb=>
   cases hx
  |4,hp,hx,hj,hf,Ta,Tb=>
   cases hx
  |5,hp,hx,hj,hf,Ta,Tb=>
   cases hx
  |6,hp,hx,hj,hf,Ta,Tb=>
   cases hx
  |7,hp,hx,hj,hf,Ta,Tb=>
   cases hx
  |8,hp,hx,hj,hf,Ta,Tb=>
   cases hx
   have hq:q=.wx g 9:=hf (by simp[Jmp])
   rw[hq]
   exact (g_wx8 C ht hp).up hup
  |9,hp,hx,hj,hf,Ta,Tb=>
   cases hx
   have hq:q=.wx g 10:=hf (by simp[Jmp])
   rw[hq]
   exact (g_wx9 C ht hp rfl).up hup
  |10,hp,hx,hj,hf,Ta,Tb=>
   cases hx
   have hq:q=.wx g 11:=hf (by simp[Jmp])
   rw[hq]
   exact (g_wx10 C ht hp rfl).up hup
  |11,hp,hx,hj,hf,Ta,Tb=>
   cases hx
   have hq:q=.wx g 12:=hf (by simp[Jmp])
   rw[hq]
   exact (g_wx11 C ht hp rfl).up hup
  |12,hp,hx,hj,hf,Ta,Tb=>
   cases hx
   by_cases h0:s.reg t 1=0
   ·have hq:q=.wx g 19:=hj (by simp[Jmp];exact h0)
    rw[hq]
    rw[show s.ex t ⟨14,1,0,0,to⟩ tg=s.setP t tg from if_pos h0]
    exact ((g_wx12j C ht hp h0).up hup).pc t tg
   ·have hq:q=.wx g 13:=hf (by simp[Jmp];exact h0)
    rw[hq]
    rw[show s.ex t ⟨14,1,0,0,to⟩ tg=s from if_neg h0]
    exact (g_wx12f C ht hp h0).up hup
  |13,hp,hx,hj,hf,Ta,Tb=>
   cases hx
   have hq:q=.wx g 14:=hf (by simp[Jmp])
   rw[hq]
   exact (g_wx13 C ht hp (v:=s.vw t (s.reg t 7) 0) (by rw[r7])).up hup
  |14,hp,hx,hj,hf,Ta,Tb=>
   cases hx
   have hq:q=.wx g 15:=hf (by simp[Jmp])
   rw[hq]
   exact (g_wx14 C ht hp rfl).up hup
  |15,hp,hx,hj,hf,Ta,Tb=>
   cases hx
   have hq:q=.wx g 16:=hf (by simp[Jmp])
   rw[hq]
   exact (g_wx15 C ht hp rfl).up hup
  |16,hp,hx,hj,hf,Ta,Tb=>
   cases hx
   have hq:q=.wx g 17:=hf (by simp[Jmp])
   rw[hq]
   exact (g_wx16 C ht hp rfl).up hup
  |17,hp,hx,hj,hf,Ta,Tb=>
   cases hx
   by_cases h0:s.reg t 1=0
   ·have hq:q=.wx g 19:=hj (by simp[Jmp];exact h0)
    rw[hq]
    rw[show s.ex t ⟨14,1,0,0,to⟩ tg=s.setP t tg from if_pos h0]
    exact ((g_wx17j C ht hp h0).up hup).pc t tg
   ·have hq:q=.wx g 18:=hf (by simp[Jmp];exact h0)
    rw[hq]
    rw[show s.ex t ⟨14,1,0,0,to⟩ tg=s from if_neg h0]
    exact (g_wx17f C ht hp h0).up hup
  |18,hp,hx,hj,hf,Ta,Tb=>
   cases hx
   have hq:q=.wx g 8:=hj (by simp[Jmp])
   rw[hq]
   exact ((g_wx18 C ht hp).up hup).pc t tg
  |19,hp,hx,hj,hf,Ta,Tb=>
   cases hx
   have hq:q=.wx g 20:=hf (by simp[Jmp])
   rw[hq]
   exact (g_wx19 C ht hp).up hup
  |20,hp,hx,hj,hf,Ta,Tb=>
   cases hx
   have hq:q=.wn g 21:=hf (by simp[Jmp])
   rw[hq]
   exact (g_wx20 C ht hp rfl).up hup
  |j+21,hp,hx,hj,hf,Ta,Tb=>cases hx
 |rs j=>
  rw[hp]at hx hj hf Ta Tb
  match j,hp,hx,hj,hf,Ta,Tb with
  |0,hp,hx,hj,hf,Ta,Tb=>
   cases hx
   have hq:q=.rs 1:=hf (by simp[Jmp])
   rw[hq]
   exact (g_rs0 C ht hp (v:=s.vw t (s.reg t 7) 0) (by rw[r7])).up hup
  |1,hp,hx,hj,hf,Ta,Tb=>
   cases hx
   have hq:q=.rs 2:=hf (by simp[Jmp])
   rw[hq]
   rw[show s.ex t ⟨7,6,0,0,to⟩ tg=s.setB t (s.buf t++[⟨s.reg t 6,0,s.reg t 0⟩])from rfl,r6]
   exact (g_rs1 C ht hp rfl).up hup
  |2,hp,hx,hj,hf,Ta,Tb=>
   cases hx
   obtain ⟨d0,hq,hd,hd2,_⟩:∃d0,startD X.f q=some d0∧d0<100∧(X.f≠3→d0=dOut (.rs 2))∧((.rs 2:Pos)=.gn 2→q=.fin):=hf (by simp[Jmp])
   exact (g_rs2 C ht hp (hb (by simp)) hq hd).up hup
  |j+3,hp,hx,hj,hf,Ta,Tb=>cases hx
 |gn j=>
  rw[hp]at hx hj hf Ta Tb
  match j,hp,hx,hj,hf,Ta,Tb with
  |0,hp,hx,hj,hf,Ta,Tb=>
   cases hx
   have hq:q=.gn 1:=hf (by simp[Jmp])
   rw[hq]
   exact (g_gn0 C ht hp rfl).up hup
  |1,hp,hx,hj,hf,Ta,Tb=>
   cases hx
   have hq:q=.gn 2:=hf (by simp[Jmp])
   rw[hq]
   rw[show s.ex t ⟨7,6,0,0,to⟩ tg=s.setB t (s.buf t++[⟨s.reg t 6,0,s.reg t 0⟩])from rfl,r6]
   exact (g_own3 C ht hp (.inl ⟨rfl,rfl⟩)).up hup
  |2,hp,hx,hj,hf,Ta,Tb=>
   cases hx
   obtain ⟨d0,_,_,_,hq⟩:∃d0,startD X.f q=some d0∧d0<100∧(X.f≠3→d0=dOut (.gn 2))∧((Pos.gn 2:Pos)=.gn 2→q=.fin):=hf (by simp[Jmp])
   rw[hq rfl]
   exact (g_gn2 C ht hp (hb (by simp))).up hup
  |j+3,hp,hx,hj,hf,Ta,Tb=>cases hx
 |ca j=>
  rw[hp]at hx hj hf Ta Tb
  match j,hp,hx,hj,hf,Ta,Tb with
  |0,hp,hx,hj,hf,Ta,Tb=>
   cases hx
   have hq:q=.ca 1:=hf (by simp[Jmp])
   rw[hq]
   exact (g_ca0 C ht hp rfl).up hup
  |1,hp,hx,hj,hf,Ta,Tb=>
   cases hx
   have hq:q=.ca 2:=hf (by simp[Jmp])
   rw[hq]
   rw[show s.ex t ⟨7,6,0,0,to⟩ tg=s.setB t (s.buf t++[⟨s.reg t 6,0,s.reg t 0⟩])from rfl,r6]
   exact (g_own3 C ht hp (.inr ⟨rfl,rfl⟩)).up hup
  |2,hp,hx,hj,hf,Ta,Tb=>
   cases hx
   have hq:q=.tk 2 0:=hf (by simp[Jmp])
   rw[hq]
   exact (g_ca2 C ht hp (hb (by simp))).up hup
  |j+3,hp,hx,hj,hf,Ta,Tb=>cases hx
 |cr j=>
  rw[hp]at hx hj hf Ta Tb
  match j,hp,hx,hj,hf,Ta,Tb with
  |0,hp,hx,hj,hf,Ta,Tb=>
   cases hx
   have hq:q=.cr 1:=hf (by simp[Jmp])
   rw[hq]
   exact (g_cr0 C ht hp (v:=s.vw t (s.reg t 7) 0) (by rw[r7])).up hup
  |1,hp,hx,hj,hf,Ta,Tb=>
   cases hx
   have hq:q=.cr 2:=hf (by simp[Jmp])
   rw[hq]
   rw[show s.ex t ⟨7,6,0,0,to⟩ tg=s.setB t (s.buf t++[⟨s.reg t 6,0,s.reg t 0⟩])from rfl,r6]
   exact (g_cr1 C ht hp rfl).up hup
  |2,hp,hx,hj,hf,Ta,Tb=>
   cases hx
   obtain ⟨d0,hq,hd,hd2,_⟩:∃d0,startD X.f q=some d0∧d0<100∧(X.f≠3→d0=dOut (.cr 2))∧((.cr 2:Pos)=.gn 2→q=.fin):=hf (by simp[Jmp])
   exact (g_cr2 C ht hp (hb (by simp)) hq hd).up hup
  |j+3,hp,hx,hj,hf,Ta,Tb=>cases hx
 |cs j=>
  rw[hp]at hx hj hf Ta Tb
  match j,hp,hx,hj,hf,Ta,Tb with
  |0,hp,hx,hj,hf,Ta,Tb=>
   cases hx
   have hq:q=.cs 1:=hf (by simp[Jmp])
   rw[hq]
   exact (g_cs0 C ht hp (v:=s.vw t (s.reg t 7) 0) (by rw[r7])).up hup
  |1,hp,hx,hj,hf,Ta,Tb=>
   cases hx
   have hq:q=.cs 2:=hf (by simp[Jmp])
   rw[hq]
   exact (g_cs1 C ht hp rfl).up hup
  |2,hp,hx,hj,hf,Ta,Tb=>
   cases hx
   have hq:q=.cs 3:=hf (by simp[Jmp])
   rw[hq]
   exact (g_cs2 C ht hp hB rfl).up hup
  |3,hp,hx,hj,hf,Ta,Tb=>
   cases hx
   have hq:q=.cs 4:=hf (by simp[Jmp])
   rw[hq]
   rw[show s.ex t ⟨7,7,0,0,to⟩ tg=s.setB t (s.buf t++[⟨s.reg t 7,0,s.reg t 0⟩])from rfl,r7]
   exact g_cs3 C ht hp rfl
  |4,hp,hx,hj,hf,Ta,Tb=>
   cases hx
   have hq:q=.cs 5:=hf (by simp[Jmp])
   rw[hq]
   exact (g_cs4 C ht hp (hb (by simp))).up hup
  |5,hp,hx,hj,hf,Ta,Tb=>
   cases hx
   have hq:q=.cs 6:=hf (by simp[Jmp])
   rw[hq]
   exact (g_cs5 C ht hp (v:=s.vw t (s.reg t 7) 2) (by rw[r7])).up hup
  |6,hp,hx,hj,hf,Ta,Tb=>
   cases hx
   have hq:q=.cs 7:=hf (by simp[Jmp])
   rw[hq]
   exact (g_cs6 C ht hp).up hup
  |7,hp,hx,hj,hf,Ta,Tb=>
   cases hx
   by_cases h0:s.reg t 2=0
   ·have hq:q=.cs 17:=hj (by simp[Jmp];exact h0)
    rw[hq]
    rw[show s.ex t ⟨14,2,0,0,to⟩ tg=s.setP t tg from if_pos h0]
    exact ((g_cs7j C ht hp h0 O).up hup).pc t tg
   ·have hq:q=.cx 8:=hf (by simp[Jmp];exact h0)
    rw[hq]
    rw[show s.ex t ⟨14,2,0,0,to⟩ tg=s from if_neg h0]
    exact (g_cs7f C ht hp h0).up hup
  |8,hp,hx,hj,hf,Ta,Tb=>
   cases hx
  |9,hp,hx,hj,hf,Ta,Tb=>
   cases hx
  |10,hp,hx,hj,hf,Ta,Tb=>
   cases hx
  |11,hp,hx,hj,hf,Ta,Tb=>
   cases hx
  |12,hp,hx,hj,hf,Ta,Tb=>
   cases hx
  |13,hp,hx,hj,hf,Ta,Tb=>
   cases hx
  |14,hp,hx,hj,hf,Ta,Tb=>
   cases hx
  |15,hp,hx,hj,hf,Ta,Tb=>
   cases hx
  |16,hp,hx,hj,hf,Ta,Tb=>
   cases hx
   have hq:q=.cs 6:=hj (by simp[Jmp])
   rw[hq]
   exact ((g_cs16 C ht hp).up hup).pc t tg
  |17,hp,hx,hj,hf,Ta,Tb=>
   cases hx
   have hq:q=.gv 2 0:=hf (by simp[Jmp])
   rw[hq]
   exact (g_cs17 C ht hp).up hup
  |j+18,hp,hx,hj,hf,Ta,Tb=>cases hx
 |cx j=>
  rw[hp]at hx hj hf Ta Tb
  match j,hp,hx,hj,hf,Ta,Tb with
  |0,hp,hx,hj,hf,Ta,Tb=>
   cases hx
  |1,hp,hx,hj,hf,Ta,Tb=>
   cases hx
  |2,hp,hx,hj,hf,Ta,Tb=>
   cases hx
  |3,hp,hx,hj,hf,Ta,Tb=>
   cases hx
  |4,hp,hx,hj,hf,Ta,Tb=>
   cases hx
  |5,hp,hx,hj,hf,Ta,Tb=>
   cases hx
  |6,hp,hx,hj,hf,Ta,Tb=>
   cases hx
  |7,hp,hx,hj,hf,Ta,Tb=>
   cases hx
  |8,hp,hx,hj,hf,Ta,Tb=>
   cases hx
   have hq:q=.cx 9:=hf (by simp[Jmp])
   rw[hq]
   exact (g_cx8 C ht hp).up hup
  |9,hp,hx,hj,hf,Ta,Tb=>
   cases hx
   have hq:q=.cx 10:=hf (by simp[Jmp])
   rw[hq]
   exact (g_cx9 C ht hp rfl).up hup
  |10,hp,hx,hj,hf,Ta,Tb=>
   cases hx
   by_cases h0:s.reg t 0=0
   ·have hq:q=.cx 14:=hj (by simp[Jmp];exact h0)
    rw[hq]
    rw[show s.ex t ⟨14,0,0,0,to⟩ tg=s.setP t tg from if_pos h0]
    exact ((g_cx10j C ht hp h0).up hup).pc t tg
   ·have hq:q=.cx 11:=hf (by simp[Jmp];exact h0)
    rw[hq]
    rw[show s.ex t ⟨14,0,0,0,to⟩ tg=s from if_neg h0]
    exact (g_cx10f C ht hp h0).up hup
  |11,hp,hx,hj,hf,Ta,Tb=>
   cases hx
   have hq:q=.cx 12:=hf (by simp[Jmp])
   rw[hq]
   exact (g_cx11 C ht hp (v:=s.vw t (s.reg t 7) 0) (by rw[r7])).up hup
  |12,hp,hx,hj,hf,Ta,Tb=>
   cases hx
   by_cases h0:s.reg t 0=s.reg t 1
   ·have hq:q=.cx 14:=hj (by simp[Jmp];exact h0)
    rw[hq]
    rw[show s.ex t ⟨15,0,1,0,to⟩ tg=s.setP t tg from if_pos h0]
    exact ((g_cx12j C ht hp h0).up hup).pc t tg
   ·have hq:q=.cx 13:=hf (by simp[Jmp];exact h0)
    rw[hq]
    rw[show s.ex t ⟨15,0,1,0,to⟩ tg=s from if_neg h0]
    exact (g_cx12f C ht hp h0).up hup
  |13,hp,hx,hj,hf,Ta,Tb=>
   cases hx
   have hq:q=.cx 8:=hj (by simp[Jmp])
   rw[hq]
   exact ((g_cx13 C ht hp).up hup).pc t tg
  |14,hp,hx,hj,hf,Ta,Tb=>
   cases hx
   have hq:q=.cx 15:=hf (by simp[Jmp])
   rw[hq]
   exact (g_cx14 C ht hp).up hup
  |15,hp,hx,hj,hf,Ta,Tb=>
   cases hx
   have hq:q=.cs 16:=hf (by simp[Jmp])
   rw[hq]
   exact (g_cx15 C ht hp rfl).up hup
  |j+16,hp,hx,hj,hf,Ta,Tb=>cases hx
end Qg
end
section
namespace Qg
open Qs
variable {X:Cx}{s s':A}{p:Nat→Pos}{old old':Nat→Nat→Prop}{L L':List Nat}{B:Int}{t u:Nat}
theorem Core.client(C:Core X s p old L B)(ht:t<X.n){c d:Nat}(hp:p t=.cl c d)(q:Pos){d':Nat}(hq:startD X.f q=some d')(hd:d'<100)(hdd:X.f≠3→d'=d)
  (e1:∀u,u≠t→s'.reg u=s.reg u) (e2:∀u,u≠t→s'.buf u=s.buf u) (e3:∀x w,X.gr x→s'.val x w=s.val x w) (r6:s'.reg t 6=s.reg t 6) (r7:s'.reg t 7=s.reg t 7)
  (l:List En) (hb:s'.buf t=s.buf t++l) (hl:∀e∈l,¬X.gr e.a) (ho:∀u r,u<X.n→r<X.n→u≠t→old' u r→old u r)
  (ho2:∀u r,u<X.n→r<X.n→old' u r→∃c d,upd p t q r=.cl c d∧0<d):Core X s' (upd p t q) old' L B:=by
 have T:=C.th t ht
 have hnb:=T.nb
 have hok:=T.ok
 have hil:=T.il
 have hsec:=T.sec
 have hvw0:=T.vw
 have hbuf:=T.buf
 rw[hp]at hnb hok hil hsec hvw0 hbuf
 have hH:¬Has (s.reg t) (s.buf t) (.cl c d):=fun h=>h
 have hmem:∀e∈s'.buf t,X.gr e.a→e∈s.buf t:=fun e he hg=>by
  rw[hb]at he
  rcases List.mem_append.1 he with h|h
  ·exact h
  ·exact absurd hg (hl e h)
 have hvw:s'.vw t (X.own t) 0=s.vw t (X.own t) 0:=by
  unfold A.vw
  rw[hb,e3 _ _ (gr_own ht)]
  unfold lk1
  rw[List.foldl_append]
  exact lk1_none fun e he ha=>absurd (ha ▸ gr_own ht) (hl e he)
 have hpt:∀ φ,X.Prot s t φ→X.Prot s' t φ:=fun φ h=>⟨by rw[e3 _ _ (gr_own ht)];exact h.1,fun e he ha=>h.2 e (hmem e he (ha ▸ gr_own ht)) ha⟩
 have hprot:∀r φ,r<X.n→X.Prot s r φ→X.Prot s' r φ:=fun r φ hr h=>by
  by_cases e:r=t
  ·subst e;exact hpt φ h
  ·exact Prot.same (e2 r e) (e3 _ _ (gr_own hr)) h
 have Bq:=beg_of (X:=X) hq hd (s'.reg t) (s'.buf t) s'.val (X.Prot s') (old' t) L t (s'.vw t (X.own t) 0) (s'.val X.hub 0)
 have hhub:∀w,s'.val X.hub w=s.val X.hub w:=fun w=>e3 _ _ gr_hub
 have hH':∀u,u<X.n→(Has (s'.reg u) (s'.buf u) (upd p t q u)↔Has (s.reg u) (s.buf u) (p u)):=fun u hu=>by
  by_cases e:u=t
  ·subst e;rw[upd_same,hp];exact ⟨fun h=>absurd h Bq.h,fun h=>absurd h hH⟩
  ·rw[upd_ne _ _ e,e1 u e,e2 u e]
 refine ⟨fun u hu=>?_,?_,by rw[hhub];exact C.h0,by rw[hhub];exact C.h3,fun f u hu e he ha=>?_,?_,C.all,fun f u hu hj=>?_,ho2⟩
 ·by_cases e:u=t
  ·subst e
   rw[upd_same]
   refine ⟨by rw[r6];exact T.r6,by rw[r7];exact T.r7,fun _ e he hg=>hbuf hH e (hmem e he hg) hg,fun f=>?_,fun f=>hpt _ (T.rng f),fun f g h=>?_,fun f h=>hil f ?_,fun f h1 h2 e he hg=>hnb f (by simp[wait3]) hH e (hmem e he hg) hg,fun f h=>?_,Bq.a,fun _=>Bq.c,Bq.b⟩
   ·rw[hvw,hvw0 f,Bq.n f,hdd f];rfl
   ·have:=Bq.s f h
    rcases hsec f g (by show 0<d;have:=hdd f;omega)with h|h
    ·exact .inl (hpt _ h)
    ·exact .inr (hpt _ h)
   ·have:=Bq.l f h
    have:=hdd (by omega)
    show 0<d
    omega
   ·rw[e3 _ _ (gr_own hu),hhub];exact hok f trivial
  ·rw[upd_ne _ _ e]
   exact (C.th u hu).mono (e1 u e) (e2 u e) (fun w=>e3 _ _ (gr_own hu)) (fun _=>by rw[hhub];exact Int.le_refl _) (fun _=>⟨hhub 0,hhub 2,fun r hr=>e3 _ _ (gr_own hr)⟩) (fun r hr h=>ho u r hu hr e h) (fun r φ hr _ h=>hprot r φ hr h) Iff.rfl
 ·rw[hhub]
  rcases C.lock with ⟨h1,h2⟩|⟨h,h1,h2,h3,h4⟩
  ·exact .inl ⟨h1,fun u hu g=>h2 u hu ((hH' u hu).1 g)⟩
  ·exact .inr ⟨h,h1,(hH' h h1).2 h2,h3,fun u hu hne g=>h4 u hu hne ((hH' u hu).1 g)⟩
 ·by_cases e5:u=t
  ·subst e5;exact C.hb3 f u hu e (hmem e he (ha ▸ gr_hub)) ha
  ·rw[e2 u e5]at he;exact C.hb3 f u hu e he ha
 ·rw[hhub];exact Ch.mono (fun r hr=>e3 _ _ (gr_own hr)) C.ch
 ·rw[e3 _ _ (gr_own hu)]
  refine C.j f u hu ?_
  by_cases e:u=t
  ·subst e;rw[hp];simp[joining]
  ·rw[upd_ne _ _ e]at hj;exact hj
end Qg
end
section
namespace Qg
open Qs
def kd:Pos→Nat
 |.cl 1 _=>1
 |.cl 2 _=>1
 |.cl 11 _=>2
 |.cl 12 _=>2
 |.cl 13 _=>2
 |.cl 14 _=>3
 |.wb=>3
 |.wn _ _=>3
 |.wx _ _=>3
 |.we=>3
 |.ca _=>3
 |.cs _=>3
 |.cx _=>3
 |.cr _=>3
 |.tk k _=>if k=0 then 0 else 3
 |.gv k _=>if k=0 then 0 else 3
 |_=>0
variable (X:Cx)(ptr:Int)
variable {X:Cx}{ptr:Int}{s s':A}{p p':Nat→Pos}{L L':List Nat}{B:Int}{t u:Nat}
end Qg
end
section
namespace Qg
open Qs
variable {X:Cx}{ptr:Int}{s s':A}{p p':Nat→Pos}{L L':List Nat}{B:Int}{t u:Nat}
theorem ins_what{f:Nat}{P:Pos}{op:Nat}{a b c:Int}(h:insOf f P=some (op,a,b,c)) :
  (op=7∧(a=6∨a=7))∨(op=9∧a=7∧b=0)∨(op=12∨op=13∨op=14∨op=15∨op=16∨op=17)∨((op=0∨op=2∨op=3∨op=4∨op=5∨op=6)∧(a=0∨a=1∨a=2)):=by
 cases P with
 |fin=>cases h
 |cl c d=>cases h
 |dead=>cases h
 |jk d=>cases h;simp
 |wb=>have h2:some ((barOp f:Nat),(0:Int),(0:Int),(0:Int))=some (op,a,b,c):=h;cases h2;unfold barOp;split <;> simp
 |we=>have h2:some ((barOp f:Nat),(0:Int),(0:Int),(0:Int))=some (op,a,b,c):=h;cases h2;unfold barOp;split <;> simp
 |ent d j=>
  match j,h with
  |0,h=>cases h;simp
  |1,h=>cases h;simp
  |2,h=>cases h;simp
  |3,h=>cases h;simp
  |4,h=>cases h;simp
  |5,h=>cases h;simp
  |6,h=>cases h;simp
  |7,h=>cases h;simp
  |8,h=>cases h;simp
  |9,h=>cases h;simp
  |10,h=>cases h;simp
  |11,h=>cases h;simp
  |12,h=>cases h;simp
  |j+13,h=>cases h
 |lea d j=>
  match j,h with
  |0,h=>cases h;simp
  |1,h=>cases h;simp
  |2,h=>cases h;simp
  |3,h=>cases h;simp
  |4,h=>cases h;simp
  |j+5,h=>cases h
 |jh d j=>
  match j,h with
  |0,h=>cases h;simp
  |1,h=>cases h;simp
  |2,h=>cases h;simp
  |3,h=>cases h;simp
  |j+4,h=>cases h
 |jc j=>
  match j,h with
  |0,h=>cases h;simp
  |1,h=>cases h;simp
  |2,h=>cases h;simp
  |3,h=>cases h;simp
  |4,h=>cases h;simp
  |j+5,h=>cases h
 |tk k j=>
  match j,h with
  |0,h=>cases h;simp
  |1,h=>cases h;simp
  |2,h=>cases h;simp
  |3,h=>cases h;simp
  |4,h=>cases h;simp
  |5,h=>cases h;simp
  |6,h=>cases h;simp
  |j+7,h=>cases h
 |gv k j=>
  match j,h with
  |0,h=>cases h;simp
  |1,h=>cases h;simp
  |2,h=>cases h;simp
  |j+3,h=>cases h
 |wn g j=>
  match j,h with
  |0,h=>cases h;simp
  |1,h=>cases h;simp
  |2,h=>cases h;simp
  |3,h=>cases h;simp
  |4,h=>have h2:some ((barOp f:Nat),(0:Int),(0:Int),(0:Int))=some (op,a,b,c):=h;cases h2;unfold barOp;split <;> simp
  |5,h=>cases h;simp
  |6,h=>cases h;simp
  |7,h=>cases h;simp
  |8,h=>cases h
  |9,h=>cases h
  |10,h=>cases h
  |11,h=>cases h
  |12,h=>cases h
  |13,h=>cases h
  |14,h=>cases h
  |15,h=>cases h
  |16,h=>cases h
  |17,h=>cases h
  |18,h=>cases h
  |19,h=>cases h
  |20,h=>cases h
  |21,h=>cases h;simp
  |22,h=>cases h;simp
  |j+23,h=>cases h
 |wx g j=>
  match j,h with
  |0,h=>cases h
  |1,h=>cases h
  |2,h=>cases h
  |3,h=>cases h
  |4,h=>cases h
  |5,h=>cases h
  |6,h=>cases h
  |7,h=>cases h
  |8,h=>cases h;simp
  |9,h=>cases h;simp
  |10,h=>cases h;simp
  |11,h=>cases h;simp
  |12,h=>cases h;simp
  |13,h=>cases h;simp
  |14,h=>cases h;simp
  |15,h=>cases h;simp
  |16,h=>cases h;simp
  |17,h=>cases h;simp
  |18,h=>cases h;simp
  |19,h=>cases h;simp
  |20,h=>cases h;simp
  |j+21,h=>cases h
 |rs j=>
  match j,h with
  |0,h=>cases h;simp
  |1,h=>cases h;simp
  |2,h=>cases h;simp
  |j+3,h=>cases h
 |gn j=>
  match j,h with
  |0,h=>cases h;simp
  |1,h=>cases h;simp
  |2,h=>cases h;simp
  |j+3,h=>cases h
 |ca j=>
  match j,h with
  |0,h=>cases h;simp
  |1,h=>cases h;simp
  |2,h=>cases h;simp
  |j+3,h=>cases h
 |cr j=>
  match j,h with
  |0,h=>cases h;simp
  |1,h=>cases h;simp
  |2,h=>cases h;simp
  |j+3,h=>cases h
 |cs j=>
  match j,h with
  |0,h=>cases h;simp
  |1,h=>cases h;simp
  |2,h=>cases h;simp
  |3,h=>cases h;simp
  |4,h=>cases h;simp
  |5,h=>cases h;simp
  |6,h=>cases h;simp
  |7,h=>cases h;simp
  |8,h=>cases h
  |9,h=>cases h
  |10,h=>cases h
  |11,h=>cases h
  |12,h=>cases h
  |13,h=>cases h
  |14,h=>cases h
  |15,h=>cases h
  |16,h=>cases h;simp
  |17,h=>cases h;simp
  |j+18,h=>cases h
 |cx j=>
  match j,h with
  |0,h=>cases h
  |1,h=>cases h
  |2,h=>cases h
  |3,h=>cases h
  |4,h=>cases h
  |5,h=>cases h
  |6,h=>cases h
  |7,h=>cases h
  |8,h=>cases h;simp
  |9,h=>cases h;simp
  |10,h=>cases h;simp
  |11,h=>cases h;simp
  |12,h=>cases h;simp
  |13,h=>cases h;simp
  |14,h=>cases h;simp
  |15,h=>cases h;simp
  |j+16,h=>cases h
theorem ins_reads{f:Nat}{P:Pos}{a b c:Int}(h:insOf f P=some (6,a,b,c)):b=6∨b=7∨(b=2∧((∃g j,P=.wx g j)∨∃j,P=.cx j)):=by
 cases P with
 |fin=>cases h
 |cl c d=>cases h
 |dead=>cases h
 |jk d=>cases h
 |wb=>have h2:some ((barOp f:Nat),(0:Int),(0:Int),(0:Int))=some (6,a,b,c):=h;unfold barOp at h2;split at h2 <;> cases h2
 |we=>have h2:some ((barOp f:Nat),(0:Int),(0:Int),(0:Int))=some (6,a,b,c):=h;unfold barOp at h2;split at h2 <;> cases h2
 |ent d j=>
  match j,h with
  |0,h=>cases h;simp
  |1,h=>cases h
  |2,h=>cases h
  |3,h=>cases h
  |4,h=>cases h
  |5,h=>cases h
  |6,h=>cases h
  |7,h=>cases h
  |8,h=>cases h
  |9,h=>cases h;simp
  |10,h=>cases h
  |11,h=>cases h
  |12,h=>cases h
  |j+13,h=>cases h
 |lea d j=>
  match j,h with
  |0,h=>cases h
  |1,h=>cases h;simp
  |2,h=>cases h
  |3,h=>cases h
  |4,h=>cases h
  |j+5,h=>cases h
 |jh d j=>
  match j,h with
  |0,h=>cases h;simp
  |1,h=>cases h
  |2,h=>cases h
  |3,h=>cases h
  |j+4,h=>cases h
 |jc j=>
  match j,h with
  |0,h=>cases h;simp
  |1,h=>cases h
  |2,h=>cases h
  |3,h=>cases h
  |4,h=>cases h
  |j+5,h=>cases h
 |tk k j=>
  match j,h with
  |0,h=>cases h
  |1,h=>cases h
  |2,h=>cases h
  |3,h=>cases h
  |4,h=>cases h
  |5,h=>cases h
  |6,h=>cases h
  |j+7,h=>cases h
 |gv k j=>
  match j,h with
  |0,h=>cases h
  |1,h=>cases h
  |2,h=>cases h
  |j+3,h=>cases h
 |wn g j=>
  match j,h with
  |0,h=>cases h;simp
  |1,h=>cases h
  |2,h=>cases h
  |3,h=>cases h
  |4,h=>have h2:some ((barOp f:Nat),(0:Int),(0:Int),(0:Int))=some (6,a,b,c):=h;unfold barOp at h2;split at h2 <;> cases h2
  |5,h=>cases h;simp
  |6,h=>cases h
  |7,h=>cases h
  |8,h=>cases h
  |9,h=>cases h
  |10,h=>cases h
  |11,h=>cases h
  |12,h=>cases h
  |13,h=>cases h
  |14,h=>cases h
  |15,h=>cases h
  |16,h=>cases h
  |17,h=>cases h
  |18,h=>cases h
  |19,h=>cases h
  |20,h=>cases h
  |21,h=>cases h
  |22,h=>cases h
  |j+23,h=>cases h
 |wx g j=>
  match j,h with
  |0,h=>cases h
  |1,h=>cases h
  |2,h=>cases h
  |3,h=>cases h
  |4,h=>cases h
  |5,h=>cases h
  |6,h=>cases h
  |7,h=>cases h
  |8,h=>cases h
  |9,h=>cases h;simp
  |10,h=>cases h
  |11,h=>cases h
  |12,h=>cases h
  |13,h=>cases h;simp
  |14,h=>cases h
  |15,h=>cases h
  |16,h=>cases h
  |17,h=>cases h
  |18,h=>cases h
  |19,h=>cases h
  |20,h=>cases h;simp
  |j+21,h=>cases h
 |rs j=>
  match j,h with
  |0,h=>cases h;simp
  |1,h=>cases h
  |2,h=>cases h
  |j+3,h=>cases h
 |gn j=>
  match j,h with
  |0,h=>cases h
  |1,h=>cases h
  |2,h=>cases h
  |j+3,h=>cases h
 |ca j=>
  match j,h with
  |0,h=>cases h
  |1,h=>cases h
  |2,h=>cases h
  |j+3,h=>cases h
 |cr j=>
  match j,h with
  |0,h=>cases h;simp
  |1,h=>cases h
  |2,h=>cases h
  |j+3,h=>cases h
 |cs j=>
  match j,h with
  |0,h=>cases h;simp
  |1,h=>cases h
  |2,h=>cases h
  |3,h=>cases h
  |4,h=>cases h
  |5,h=>cases h;simp
  |6,h=>cases h
  |7,h=>cases h
  |8,h=>cases h
  |9,h=>cases h
  |10,h=>cases h
  |11,h=>cases h
  |12,h=>cases h
  |13,h=>cases h
  |14,h=>cases h
  |15,h=>cases h
  |16,h=>cases h
  |17,h=>cases h
  |j+18,h=>cases h
 |cx j=>
  match j,h with
  |0,h=>cases h
  |1,h=>cases h
  |2,h=>cases h
  |3,h=>cases h
  |4,h=>cases h
  |5,h=>cases h
  |6,h=>cases h
  |7,h=>cases h
  |8,h=>cases h
  |9,h=>cases h;simp
  |10,h=>cases h
  |11,h=>cases h;simp
  |12,h=>cases h
  |13,h=>cases h
  |14,h=>cases h
  |15,h=>cases h;simp
  |j+16,h=>cases h
theorem kd_tgt(P:Pos)(h:∀c d,P≠.cl c d):kd (tgtOf P)=kd P∧∀c d,tgtOf P≠.cl c d:=by
 unfold tgtOf
 split
 all_goals first
  |exact ⟨rfl,h⟩
  |(split <;> exact ⟨rfl,fun _ _ e=>by cases e⟩)
  |exact ⟨rfl,fun _ _ e=>by cases e⟩
end Qg
end
section
namespace Qk
open Qs Qg
inductive Ro where
 |no
 |sp
 |pub
 |mine (t:Nat)
deriving DecidableEq
structure Ck where
 X:Cx
 top:Int
 lc:Nat→Int
 lw:Nat→Nat
 nx:Nat
 V:Int→Prop
 tg:¬X.gr top
 lg:∀t,¬X.gr (lc t)
 lt:∀t,lc t≠top
 li:∀t u,t<X.n→u<X.n→lc t=lc u→lw t=lw u→t=u
 n0:nx≠0
 V0:∀v,V v→v≠0
structure Fl where
 r:Bool
 g:Nat
deriving DecidableEq
def Ck.spec(K:Ck)(x:Int):Prop:=K.X.gr x∨x=K.top∨∃t,t<K.X.n∧x=K.lc t
def hold:Pos→Prop
 |.cl 1 _=>True
 |_=>False
def ChL(vw:Int→Nat→Int)(nx:Nat):Int→List Int→Prop
 |h,[]=>h=0
 |h,x :: l=>h=x∧ChL vw nx (vw x nx) l
def Own(R:Int→Ro)(t:Nat)(l:List Int)(x:Int):Prop:=x≠0∧R x=.mine t∧¬x∈l
def Gen(rg:Nat→Int)(R:Int→Ro)(t:Nat)(l:List Int)(f:Fl):Prop:=(rg 3=0∨Own R t l (rg 3))∧(f.r=false→rg 3=0)
section
variable (K:Ck)(rg:Nat→Int)(vw:Int→Nat→Int)(R:Int→Ro)(t:Nat)(l:List Int)(f:Fl)
def Ck.Hnd:Pos→Prop
 |.cl 2 _=>Gen rg R t l f∧K.V (rg 4)
 |.cl 3 _=>Gen rg R t l f∧K.V (rg 4)
 |.cl 11 _=>rg 3=0∧(rg 4=0∨Own R t l (rg 4))
 |.cl 12 _=>rg 3=0∧Own R t l (rg 4)
 |.cl 13 _=>rg 3=0∧Own R t l (rg 4)∧K.V (rg 0)
 |.cl 14 _=>rg 3=0∧Own R t l (rg 4)∧K.V (vw (rg 4) 0)
 |.cl 15 _=>Own R t l (rg 4)
 |.cl 21 _=>Own R t l (rg 3)
 |.cl 22 _=>True
 |.cl 31 _=>Own R t l (rg 3)
 |.cl 32 _=>Own R t l (rg 3)∧rg 2=K.lc t
 |.cl 33 _=>Own R t l (rg 3)∧rg 2=K.lc t∧rg 0=vw (K.lc t) (K.lw t)
 |.cl 34 _=>Own R t l (rg 3)∧rg 2=K.lc t∧vw (rg 3) K.nx=vw (K.lc t) (K.lw t)
 |.cl 35 _=>True
 |.cl 40 _=>Gen rg R t l f∧2≤f.g
 |.cl 41 _=>Gen rg R t l f∧2≤f.g∧rg 2=K.lc t
 |.cl 42 _=>Gen rg R t l f∧2≤f.g∧rg 2=K.lc t
 |.cl 43 _=>Gen rg R t l f∧2≤f.g∧rg 2=K.lc t∧rg 0=vw (K.lc t) (K.lw t)
 |.cl 44 _=>Gen rg R t l f∧2≤f.g∧rg 2=K.lc t∧rg 0=vw (K.lc t) (K.lw t)∧rg 0≠0
 |.cl 45 _=>Gen rg R t l f∧2≤f.g∧rg 2=K.lc t∧rg 0=vw (K.lc t) (K.lw t)∧rg 0≠0∧rg 1=vw (rg 0) K.nx
 |.cl 46 _=>Gen rg R t l f∧2≤f.g∧rg 2=K.lc t∧Own R t l (rg 0)∧rg 0≠rg 3
 |.cl 47 _=>Gen rg R t l f∧2≤f.g∧rg 2=K.lc t
 |_=>Gen rg R t l f
end
structure Ths(K:Ck)(s:A)(R:Int→Ro)(t:Nat)(P:Pos)(f:Fl):Prop where
 r5:s.reg t 5=K.top
 bufs:∀e∈s.buf t,K.X.gr e.a∨(e.a=K.lc t∧e.w=K.lw t)∨(R e.a=.mine t∧(e.w=0→K.V e.v))
 ls:∃l,ChL (s.vw t) K.nx (s.vw t (K.lc t) (K.lw t)) l∧(∀x∈l,x≠0∧R x=.mine t)∧l.Nodup∧K.Hnd (s.reg t) (s.vw t) R t l f P
structure CG(K:Ck)(s:A)(p:Nat→Pos)(fl:Nat→Fl)(R:Int→Ro):Prop where
 z:R 0=.no
 hr:∀x,R x≠.no→s.here x=true
 sp:∀x,K.spec x→R x=.sp
 t12:∀t,t<K.X.n→s.val K.top (1+t/4)=K.lc t
 t0:R (s.val K.top 0)=.pub
 pb:∀x,R x=.pub→K.V (s.val x 0)
 th:∀t,t<K.X.n→Ths K s R t (p t) (fl t)
 hd:∀t,t<K.X.n→∀d,p t=.cl 1 d→0<d
 ho:∀t,t<K.X.n→hold (p t)→(R (s.reg t 0)=.pub∨∃w,R (s.reg t 0)=.mine w)∧K.V (s.val (s.reg t 0) 0)
 g1:∀t,t<K.X.n→1≤(fl t).g→R (s.reg t 3)=.mine t→∀r,r<K.X.n→hold (p r)→s.reg r 0≠s.reg t 3
 g2:∀t,t<K.X.n→2≤(fl t).g→∀r,r<K.X.n→hold (p r)→R (s.reg r 0)≠.mine t
variable {K:Ck}{s s':A}{p:Nat→Pos}{fl:Nat→Fl}{R R':Int→Ro}{t u:Nat}{P q:Pos}{f:Fl}
theorem ChL.keep{vw vw':Int→Nat→Int}{nx:Nat}:∀ {l:List Int} {h:Int},ChL vw nx h l→(∀x∈l,vw' x nx=vw x nx)→ChL vw' nx h l
 |[],_,H,_=>H
 |x :: l,h,H,hk=>⟨H.1,by rw[hk x (by simp)];exact H.2.keep fun y hy=>hk y (by simp[hy])⟩
theorem Own.mono{l:List Int}{x:Int}(h:Own R t l x)(hR:R' x=.mine t↔R x=.mine t):Own R' t l x:=⟨h.1,hR.2 h.2.1,h.2.2⟩
theorem Gen.mono{rg:Nat→Int}{l:List Int}(h:Gen rg R t l f)(hR:∀x,R' x=.mine t↔R x=.mine t):Gen rg R' t l f:=⟨h.1.imp id fun g=>g.mono (hR _),h.2⟩
theorem Hnd.mono{rg:Nat→Int}{vw vw':Int→Nat→Int}{l:List Int}(h:K.Hnd rg vw R t l f P)(hR:∀x,R' x=.mine t↔R x=.mine t)(hl:vw' (K.lc t) (K.lw t)=vw (K.lc t) (K.lw t))(hv:∀x w,R x=.mine t→vw' x w=vw x w)
  (hch:ChL vw K.nx (vw (K.lc t) (K.lw t)) l) (hm:∀x∈l,R x=.mine t):K.Hnd rg vw' R' t l f P:=by
 have hO:∀x,Own R t l x→Own R' t l x:=fun x g=>g.mono (hR x)
 unfold Ck.Hnd at h ⊢
 split at h
 ·exact ⟨h.1.mono hR,h.2⟩
 ·exact ⟨h.1.mono hR,h.2⟩
 ·exact ⟨h.1,h.2.imp id (hO _)⟩
 ·exact ⟨h.1,hO _ h.2⟩
 ·exact ⟨h.1,hO _ h.2.1,h.2.2⟩
 ·exact ⟨h.1,hO _ h.2.1,by rw[hv _ _ h.2.1.2.1];exact h.2.2⟩
 ·exact hO _ h
 ·exact hO _ h
 ·trivial
 ·exact hO _ h
 ·exact ⟨hO _ h.1,h.2⟩
 ·exact ⟨hO _ h.1,h.2.1,by rw[hl];exact h.2.2⟩
 ·exact ⟨hO _ h.1,h.2.1,by rw[hl,hv _ _ h.1.2.1];exact h.2.2⟩
 ·trivial
 ·exact ⟨h.1.mono hR,h.2⟩
 ·exact ⟨h.1.mono hR,h.2⟩
 ·exact ⟨h.1.mono hR,h.2⟩
 ·exact ⟨h.1.mono hR,h.2.1,h.2.2.1,by rw[hl];exact h.2.2.2⟩
 ·exact ⟨h.1.mono hR,h.2.1,h.2.2.1,by rw[hl];exact h.2.2.2.1,h.2.2.2.2⟩
 ·obtain ⟨a1,a2,a3,a4,a5,a6⟩:=h
  have hx:R (rg 0)=.mine t:=by
   cases l with
   |nil=>exact absurd (a4.trans hch) a5
   |cons y l=>have:rg 0=y:=a4.trans hch.1;rw[this];exact hm y (by simp)
  exact ⟨a1.mono hR,a2,a3,by rw[hl];exact a4,a5,by rw[hv _ _ hx];exact a6⟩
 ·exact ⟨h.1.mono hR,h.2.1,h.2.2.1,hO _ h.2.2.2.1,h.2.2.2.2⟩
 ·exact ⟨h.1.mono hR,h.2⟩
 ·exact h.mono hR
theorem Ths.mono(h:Ths K s R u P f)(hr:s'.reg u=s.reg u)(hb:s'.buf u=s.buf u)(hR:∀x,R' x=.mine u↔R x=.mine u)(hl:s'.vw u (K.lc u) (K.lw u)=s.vw u (K.lc u) (K.lw u))(hv:∀x w,R x=.mine u→s'.vw u x w=s.vw u x w):Ths K s' R' u P f:=by
 obtain ⟨r5,bf,l,h1,h2,h3,h4⟩:=h
 refine ⟨by rw[hr];exact r5,fun e he=>?_,l,?_,fun x hx=>⟨(h2 x hx).1,(hR x).2 (h2 x hx).2⟩,h3,?_⟩
 ·rw[hb]at he
  rcases bf e he with g|g|g
  ·exact .inl g
  ·exact .inr (.inl g)
  ·exact .inr (.inr ⟨(hR _).2 g.1,g.2⟩)
 ·rw[hl];exact h1.keep fun x hx=>hv x _ (h2 x hx).2
 ·rw[hr];exact Hnd.mono h4 hR hl hv h1 fun x hx=>(h2 x hx).2
theorem vw_same(hb:s'.buf u=s.buf u){x:Int}{w:Nat}(h:s'.val x w=s.val x w):s'.vw u x w=s.vw u x w:=by
 unfold A.vw;rw[hb,h]
def updF(fl:Nat→Fl)(t:Nat)(f:Fl):Nat→Fl:=fun u=>if u=t then f else fl u
theorem updF_same(fl:Nat→Fl)(t:Nat)(f:Fl):updF fl t f t=f:=if_pos rfl
theorem updF_ne(fl:Nat→Fl){t u:Nat}(f:Fl)(h:u≠t):updF fl t f u=fl u:=if_neg h
theorem sp_gr(C:CG K s p fl R){x:Int}(h:K.X.gr x):R x=.sp:=C.sp x (.inl h)
theorem sp_top(C:CG K s p fl R):R K.top=.sp:=C.sp _ (.inr (.inl rfl))
theorem sp_lc(C:CG K s p fl R)(ht:t<K.X.n):R (K.lc t)=.sp:=C.sp _ (.inr (.inr ⟨t,ht,rfl⟩))
theorem CG.dr(C:CG K s p fl R)(ht:t<K.X.n):CG K (s.dr t) p fl R:=by
 cases hb:s.buf t with
 |nil=>rw[show s.dr t=s from by unfold A.dr;rw[hb]];exact C
 |cons e r=>
  have hreg:(s.dr t).reg=s.reg:=A.dr_reg s t
  have hhere:(s.dr t).here=s.here:=A.dr_here s t
  have T:=C.th t ht
  have he:=T.bufs e (by rw[hb];simp)
  have hval:=fun x w=>dr_val (s:=s) (t:=t) hb x w
  have htop:∀w,(s.dr t).val K.top w=s.val K.top w:=fun w=>by
   rw[hval,if_neg]
   rintro ⟨a,b⟩
   rcases he with g|g|g
   ·exact K.tg (a ▸ g)
   ·exact K.lt t (g.1.symm.trans a.symm)
   ·have:=sp_top C;rw[a,g.1]at this;cases this
  have hpb:∀x,R x=.pub→(s.dr t).val x 0=s.val x 0:=fun x hx=>by
   rw[hval,if_neg]
   rintro ⟨a,b⟩
   subst a
   rcases he with g|g|g
   ·rw[sp_gr C g]at hx;cases hx
   ·rw[g.1,sp_lc C ht]at hx;cases hx
   ·rw[g.1]at hx;cases hx
  have hV:∀x,(∃w,R x=.mine w)→K.V (s.val x 0)→K.V ((s.dr t).val x 0):=fun x ⟨w,hx⟩ h=>by
   rw[hval]
   split
   ·rename_i a
    obtain ⟨a,b⟩:=a
    subst a
    rcases he with g|g|g
    ·rw[sp_gr C g]at hx;cases hx
    ·rw[g.1,sp_lc C ht]at hx;cases hx
    ·exact g.2 b.symm
   ·exact h
  refine ⟨C.z,by rw[hhere];exact C.hr,C.sp,fun u hu=>by rw[htop];exact C.t12 u hu,by rw[htop];exact C.t0,fun x hx=>by rw[hpb x hx];exact C.pb x hx,fun u hu=>?_,C.hd,fun u hu hh=>?_,by rw[hreg];exact C.g1,by rw[hreg];exact C.g2⟩
  ·by_cases e1:u=t
   ·subst e1
    have hvw:∀x w,(s.dr u).vw u x w=s.vw u x w:=fun x w=>dr_vw hb x w
    obtain ⟨r5,bf,l,h1,h2,h3,h4⟩:=T
    refine ⟨by rw[hreg];exact r5,fun e' he'=>bf e' (A.dr_mem he'),l,by rw[hvw];exact h1.keep fun x hx=>hvw x _,h2,h3,by rw[hreg];exact Hnd.mono h4 (fun _=>Iff.rfl) (hvw _ _) (fun x w _=>hvw x w) h1 fun x hx=>(h2 x hx).2⟩
   ·have hbu:(s.dr t).buf u=s.buf u:=dr_u e1
    refine (C.th u hu).mono (by rw[hreg]) hbu (fun _=>Iff.rfl) (vw_same hbu ?_) (fun x w hx=>vw_same hbu ?_)
    ·rw[hval,if_neg]
     rintro ⟨a,b⟩
     rcases he with g|g|g
     ·exact K.lg u (a ▸ g)
     ·exact e1 (K.li u t hu ht (a.trans g.1) (b.trans g.2))
     ·have:=sp_lc C hu;rw[a,g.1]at this;cases this
    ·rw[hval,if_neg]
     rintro ⟨a,b⟩
     subst a
     rcases he with g|g|g
     ·rw[sp_gr C g]at hx;cases hx
     ·rw[g.1,sp_lc C ht]at hx;cases hx
     ·rw[g.1]at hx;cases hx;exact e1 rfl
  ·obtain ⟨h1,h2⟩:=C.ho u hu hh
   rw[hreg]
   refine ⟨h1,?_⟩
   rcases h1 with h1|h1
   ·rw[hpb _ h1];exact h2
   ·exact hV _ h1 h2
theorem CG.own(C:CG K s p fl R)(ht:t<K.X.n)(q:Pos)(f':Fl)(e1:∀u,u≠t→s'.reg u=s.reg u)(e2:∀u,u≠t→s'.buf u=s.buf u)
  (hR:∀x u,u≠t→(R' x=.mine u↔R x=.mine u)) (hv:∀u x w,u≠t→R x=.mine u→s'.val x w=s.val x w) (hlv:∀u,u<K.X.n→u≠t→s'.val (K.lc u) (K.lw u)=s.val (K.lc u) (K.lw u))
  (hz:R' 0=.no) (hh:∀x,R' x≠.no→s'.here x=true) (hsp:∀x,K.spec x→R' x=.sp) (ht12:∀w,w≠0→s'.val K.top w=s.val K.top w) (ht0:R' (s'.val K.top 0)=.pub) (hpb:∀x,R' x=.pub→K.V (s'.val x 0))
  (T:Ths K s' R' t q f') (hho:∀r,r<K.X.n→r≠t→hold (p r)→(R' (s.reg r 0)=.pub∨∃w,R' (s.reg r 0)=.mine w)∧K.V (s'.val (s.reg r 0) 0))
  (hq:∀d,q=.cl 1 d→0<d∧R' (s'.reg t 0)=.pub) (hg1:1≤f'.g→R' (s'.reg t 3)=.mine t→∀r,r<K.X.n→r≠t→hold (p r)→s.reg r 0≠s'.reg t 3) (hg2:2≤f'.g→∀r,r<K.X.n→r≠t→hold (p r)→R' (s.reg r 0)≠.mine t) :
  CG K s' (upd p t q) (updF fl t f') R':=by
 have hqh:hold q→∃d,q=.cl 1 d:=fun h=>by
  unfold hold at h
  split at h
  ·exact ⟨_,rfl⟩
  ·exact h.elim
 refine ⟨hz,hh,hsp,fun u hu=>by rw[ht12 _ (by omega)];exact C.t12 u hu,ht0,hpb,fun u hu=>?_,fun u hu d h=>?_,fun u hu h=>?_,fun u hu h1 h2 r hr h=>?_,fun u hu h1 r hr h=>?_⟩
 ·by_cases e:u=t
  ·subst e;rw[upd_same,updF_same];exact T
  ·rw[upd_ne _ _ e,updF_ne _ _ e]
   exact (C.th u hu).mono (e1 u e) (e2 u e) (fun x=>hR x u e) (vw_same (e2 u e) (hlv u hu e)) (fun x w hx=>vw_same (e2 u e) (hv u x w e hx))
 ·by_cases e:u=t
  ·subst e;rw[upd_same]at h;exact (hq d h).1
  ·rw[upd_ne _ _ e]at h;exact C.hd u hu d h
 ·by_cases e:u=t
  ·subst e
   rw[upd_same]at h
   obtain ⟨d,hd⟩:=hqh h
   have:=(hq d hd).2
   exact ⟨.inl this,hpb _ this⟩
  ·rw[upd_ne _ _ e]at h
   rw[e1 u e]
   exact hho u hu e h
 ·by_cases er:r=t
  ·subst er
   rw[upd_same]at h
   obtain ⟨d,hd⟩:=hqh h
   have hp:=(hq d hd).2
   intro e
   rw[e,h2]at hp;cases hp
  ·rw[upd_ne _ _ er]at h
   rw[e1 r er]
   by_cases e:u=t
   ·subst e
    rw[updF_same]at h1
    exact hg1 h1 h2 r hr er h
   ·rw[updF_ne _ _ e]at h1
    rw[e1 u e]at h2 ⊢
    exact C.g1 u hu h1 ((hR _ u e).1 h2) r hr h
 ·by_cases er:r=t
  ·subst er
   rw[upd_same]at h
   obtain ⟨d,hd⟩:=hqh h
   rw[(hq d hd).2];simp
  ·rw[upd_ne _ _ er]at h
   rw[e1 r er]
   by_cases e:u=t
   ·subst e
    rw[updF_same]at h1
    exact hg2 h1 r hr er h
   ·rw[updF_ne _ _ e]at h1
    exact fun g=>C.g2 u hu h1 r hr h ((hR _ u e).1 g)
end Qk
end
section
namespace Qk
open Qs Qg
variable {K:Ck}{s s':A}{p:Nat→Pos}{fl:Nat→Fl}{R R':Int→Ro}{t u:Nat}{P q:Pos}{f f':Fl}{L:List Nat}{B:Int}{old:Nat→Nat→Prop}
def oldR(s:A)(p:Nat→Pos)(R:Int→Ro)(w r:Nat):Prop:=hold (p r)∧R (s.reg r 0)=.mine w
def HInv(K:Ck)(s:A)(p:Nat→Pos)(fl:Nat→Fl)(B:Int):Prop:=∃L R,Core K.X s p (oldR s p R) L B∧CG K s p fl R
theorem HInv.dr(I:HInv K s p fl B)(t:Nat)(h:∀t,K.X.n≤t→s.buf t=[]):HInv K (s.dr t) p fl B:=by
 obtain ⟨L,R,C,D⟩:=I
 by_cases ht:t<K.X.n
 ·obtain ⟨L',C'⟩:=C.dr ht
  have ho:oldR (s.dr t) p R=oldR s p R:=by funext a b;unfold oldR;rw[A.dr_reg]
  exact ⟨L',R,by rw[ho];exact C',D.dr ht⟩
 ·rw[show s.dr t=s from by unfold A.dr;rw[h t (by omega)]]
  exact ⟨L,R,C,D⟩
theorem HInv.up(I:HInv K s p fl B){B':Int}(h:B≤B'):HInv K s p fl B':=by
 obtain ⟨L,R,C,D⟩:=I
 exact ⟨L,R,C.up h,D⟩
theorem CG.pc(D:CG K s p fl R)(t k:Nat):CG K (s.setP t k) p fl R:=⟨D.z,D.hr,D.sp,D.t12,D.t0,D.pb,fun u hu=>⟨(D.th u hu).r5,(D.th u hu).bufs,(D.th u hu).ls⟩,D.hd,D.ho,D.g1,D.g2⟩
theorem HInv.pc(I:HInv K s p fl B)(t k:Nat):HInv K (s.setP t k) p fl B:=by
 obtain ⟨L,R,C,D⟩:=I
 exact ⟨L,R,C.pc t k,D.pc t k⟩
theorem HInv.bufs(I:HInv K s p fl B)(ht:t<K.X.n):∀e∈s.buf t,s.here e.a=true:=by
 obtain ⟨L,R,C,D⟩:=I
 intro e he
 rcases (D.th t ht).bufs e he with g|g|g
 ·exact D.hr _ (by rw[sp_gr D g];simp)
 ·exact D.hr _ (by rw[g.1,sp_lc D ht];simp)
 ·exact D.hr _ (by rw[g.1];simp)
theorem grace_key(T:Th K.X s old L t P)(ht:t<K.X.n){x:Instr}{f0:Nat}(hx:insOf f0 P=some (x.op,x.A,x.B,x.C))(tg:Nat) :
  (∀u k,u≠t∨3≤k→(s.ex t x tg).reg u k=s.reg u k)∧(∀u,u≠t→(s.ex t x tg).buf u=s.buf u)∧(∃l,(s.ex t x tg).buf t=s.buf t++l∧∀e∈l,K.X.gr e.a)∧(s.ex t x tg).here=s.here∧∀y w,¬K.X.gr y→(s.ex t x tg).val y w=s.val y w:=by
 obtain ⟨op,a,b,c,to⟩:=x
 simp only at hx
 have hgr6:K.X.gr (s.reg t 6):=by rw[T.r6];exact gr_own ht
 have hgr7:K.X.gr (s.reg t 7):=by rw[T.r7];exact gr_hub
 have hset:∀(s1:A) (k:Nat) (v:Int),s1.reg=s.reg→k<3→∀u i,u≠t∨3≤i→(s1.setR t k v).reg u i=s.reg u i:=fun s1 k v h hk u i hu=>by
  show (if u=t∧i=k then v else s1.reg u i)=_
  rw[h,if_neg (by omega)]
 rcases ins_what hx with ⟨rfl,h⟩|⟨rfl,rfl,rfl⟩|h|⟨h,h'⟩
 ·refine ⟨fun _ _ _=>rfl,fun u hu=>if_neg hu,⟨[⟨s.reg t a.toNat,c.toNat,s.reg t b.toNat⟩],if_pos rfl,fun e he=>?_⟩,rfl,fun _ _ _=>rfl⟩
  rw[List.mem_singleton.1 he]
  rcases h with rfl|rfl
  ·exact hgr6
  ·exact hgr7
 ·unfold A.ex
  simp only
  refine ⟨fun u k hu=>?_,fun u hu=>?_,⟨[],?_,fun e he=>by cases he⟩,?_,fun y w hy=>?_⟩
  ·refine hset _ 0 _ ?_ (by omega) u k hu
   split <;> rfl
  ·show A.buf (if _ then _ else s) u=_
   split <;> rfl
  ·rw[List.append_nil]
   show A.buf (if _ then _ else s) t=_
   split <;> rfl
  ·show A.here (if _ then _ else s)=_
   split <;> rfl
  ·show A.val (if _ then _ else s) y w=_
   split
   ·refine if_neg ?_
    rintro ⟨g,_⟩
    have g':y=s.reg t 7:=g
    exact hy (g' ▸ hgr7)
   ·rfl
 ·have hs:(s.ex t ⟨op,a,b,c,to⟩ tg).reg=s.reg∧(s.ex t ⟨op,a,b,c,to⟩ tg).buf=s.buf∧(s.ex t ⟨op,a,b,c,to⟩ tg).here=s.here∧(s.ex t ⟨op,a,b,c,to⟩ tg).val=s.val:=by
   rcases h with rfl|rfl|rfl|rfl|rfl|rfl
   ·exact ⟨rfl,rfl,rfl,rfl⟩
   ·exact ⟨rfl,rfl,rfl,rfl⟩
   ·unfold A.ex;simp only;split <;> exact ⟨rfl,rfl,rfl,rfl⟩
   ·unfold A.ex;simp only;split <;> exact ⟨rfl,rfl,rfl,rfl⟩
   ·exact ⟨rfl,rfl,rfl,rfl⟩
   ·exact ⟨rfl,rfl,rfl,rfl⟩
  exact ⟨fun u k _=>by rw[hs.1],fun u _=>by rw[hs.2.1],⟨[],by rw[hs.2.1,List.append_nil],fun e he=>by cases he⟩,hs.2.2.1,fun y w _=>by rw[hs.2.2.2]⟩
 ·have ha:a.toNat<3:=by omega
  have hs:∃v,s.ex t ⟨op,a,b,c,to⟩ tg=s.setR t a.toNat v:=by
   rcases h with rfl|rfl|rfl|rfl|rfl|rfl <;> exact ⟨_,rfl⟩
  obtain ⟨v,hv⟩:=hs
  rw[hv]
  exact ⟨fun u k hu=>hset s _ v rfl ha u k hu,fun _ _=>rfl,⟨[],by rw[List.append_nil];rfl,fun e he=>by cases he⟩,rfl,fun _ _ _=>rfl⟩
def genQ:Pos→Bool
 |.cl 0 _=>true
 |.cl 10 _=>true
 |.cl 16 _=>true
 |.cl 20 _=>true
 |.cl 23 _=>true
 |.cl 30 _=>true
 |.cl 36 _=>true
 |.cl 48 _=>true
 |.cl _ _=>false
 |_=>true
theorem Hnd_gen{rg:Nat→Int}{vw:Int→Nat→Int}{l:List Int}(h:genQ q=true):K.Hnd rg vw R t l f q↔Gen rg R t l f:=by
 unfold genQ at h
 split at h
 all_goals first
  |exact Iff.rfl
  |(cases h;done)
  |skip
 ·rename_i hn
  cases q with
  |cl c d=>exact (hn c d rfl).elim
  |_=>exact Iff.rfl
theorem Gen.regs{rg rg':Nat→Int}{l:List Int}(h:Gen rg R t l f)(h3:rg' 3=rg 3)(hf:f'.r=false→f.r=false):Gen rg' R t l f':=⟨by rw[h3];exact h.1,fun g=>by rw[h3];exact h.2 (hf g)⟩
def wEnd:Pos→Bool
 |.gv 1 2=>true
 |.cr 2=>true
 |_=>false
structure NextF(f0:Nat)(P q:Pos)(f f':Fl):Prop where
 nx:NextOk f0 P q
 q:genQ q=true∨(∃d,q=.cl 40 d)∧2≤f'.g
 r:f'.r=false→f.r=false
 g:f'.g≤f.g∨wEnd P=true
theorem grace_hold{x:Nat × Int × Int × Int}{f0:Nat}(h:insOf f0 P=some x):¬hold P∧genQ P=true:=by
 cases P with
 |cl c d=>cases h
 |_=>exact ⟨fun h=>h,rfl⟩
theorem tgt_gen(h:∀c d,P≠.cl c d):∀c d,tgtOf P≠.cl c d:=(kd_tgt P h).2
theorem HInv.grace(I:HInv K s p fl B)(ht:t<K.X.n){x:Instr}(hx:insOf K.X.f (p t)=some (x.op,x.A,x.B,x.C))
  (hb:x.op=9∨x.op=12→s.buf t=[]) (hb2:x.op=13→∀u,u<K.X.n→s.buf u=[]) (O:∀r,r<K.X.n→K.X.own r≠0) (hB:B<4000000000) {q:Pos} {f':Fl}
  (hj:Jmp s t x→q=tgtOf (p t)∧f'=fl t) (hf:¬Jmp s t x→NextF K.X.f (p t) q (fl t) f') (tg:Nat):HInv K (s.ex t x tg) (upd p t q) (updF fl t f') (B+2):=by
 obtain ⟨L,R,C,D⟩:=I
 have T:=C.th t ht
 have Tb:=T.b
 obtain ⟨hnh,hgP⟩:=grace_hold hx
 have hncl:∀c d,p t≠.cl c d:=fun c d e=>by rw[e]at hx;cases hx
 have C':=C.step ht hx hb hb2 O hB (fun h=>(hj h).1) (fun h=>(hf h).nx) tg
 have hq:(genQ q=true∨(∃d,q=.cl 40 d)∧2≤f'.g)∧(f'.r=false→(fl t).r=false)∧(f'.g≤(fl t).g∨∀r,r<K.X.n→¬oldR s p R t r):=by
  by_cases hJ:Jmp s t x
  ·obtain ⟨rfl,rfl⟩:=hj hJ
   refine ⟨.inl ?_,id,.inl (Nat.le_refl _)⟩
   have:=tgt_gen hncl
   cases e:tgtOf (p t)with
   |cl c d=>exact absurd e (this c d)
   |_=>rfl
  ·obtain ⟨h1,h2,h3,h4⟩:=hf hJ
   refine ⟨h2,h3,h4.imp id fun g r hr=>?_⟩
   unfold wEnd at g
   split at g
   ·rename_i e
    rw[e]at Tb
    have Tb':K.X.LGv (s.reg t) (s.buf t) (oldR s p R t) 1 2:=Tb
    exact Tb'.2.1 r hr
   ·rename_i e
    rw[e]at Tb
    exact Tb.2 r hr
   ·cases g
 clear hj hf
 obtain ⟨hqg,hfr,hfg⟩:=hq
 obtain ⟨k1,k2,⟨l2,k3,k3'⟩,k4,k5⟩:=grace_key T ht hx tg
 have hqn:¬hold q:=fun h=>by
  unfold hold at h
  split at h
  ·rcases hqg with g|⟨⟨d,g⟩,_⟩
   ·cases g
   ·cases g
  ·exact h
 have ho:oldR (s.ex t x tg) (upd p t q) R=oldR s p R:=by
  funext w r
  unfold oldR
  by_cases e:r=t
  ·subst e
   rw[upd_same]
   exact propext ⟨fun h=>absurd h.1 hqn,fun h=>absurd h.1 hnh⟩
  ·rw[upd_ne _ _ e,k1 r 0 (.inl e)]
 obtain ⟨s1,hs1⟩:∃s1,s1=s.ex t x tg:=⟨_,rfl⟩
 rw[←hs1]at k1 k2 k3 k4 k5 ho C' ⊢
 have ngr:∀x,(R x=.pub∨∃w,R x=.mine w)→¬K.X.gr x:=fun x h g=>by
  rw[sp_gr D g]at h
  rcases h with h|⟨w,h⟩ <;> cases h
 have hvw:∀x w,¬K.X.gr x→s1.vw t x w=s.vw t x w:=fun x w hx=>by
  unfold A.vw
  rw[k3,k5 x w hx]
  unfold lk1
  rw[List.foldl_append]
  exact lk1_none fun e he ha=>absurd (ha ▸ k3' e he) hx
 have Tt:=D.th t ht
 refine ⟨L,R,by rw[ho];exact C',D.own ht q f' (fun u hu=>funext fun k=>k1 u k (.inl hu)) k2 (fun _ _ _=>Iff.rfl) (fun u x w hu hx=>k5 x w (ngr x (.inr ⟨u,hx⟩))) (fun u hu _=>k5 _ _ (K.lg u)) D.z (fun x hx=>by rw[k4];exact D.hr x hx) D.sp (fun w _=>k5 _ _ K.tg) (by rw[k5 _ _ K.tg];exact D.t0) (fun x hx=>by rw[k5 _ _ (ngr x (.inl hx))];exact D.pb x hx) ?_ (fun r hr hne hh=>?_) (fun d e=>?_) (fun h1 h2 r hr hne hh=>?_) (fun h1 r hr hne hh=>?_)⟩
 ·obtain ⟨r5,bf,l,h1,h2,h3,h4⟩:=Tt
  refine ⟨by rw[k1 t 5 (.inr (by omega))];exact r5,fun e he=>?_,l,?_,h2,h3,?_⟩
  ·rw[k3]at he
   rcases List.mem_append.1 he with g|g
   ·exact bf e g
   ·exact .inl (k3' e g)
  ·rw[hvw _ _ (K.lg t)]
   exact h1.keep fun x hx=>hvw x _ (ngr x (.inr ⟨t,(h2 x hx).2⟩))
  ·have hG:=((Hnd_gen hgP).1 h4).regs (rg':=s1.reg t) (k1 t 3 (.inr (by omega))) hfr
   rcases hqg with g|⟨⟨d,rfl⟩,g⟩
   ·exact (Hnd_gen g).2 hG
   ·exact ⟨hG,g⟩
 ·obtain ⟨h1,h2⟩:=D.ho r hr hh
  exact ⟨h1,by rw[k5 _ _ (ngr _ h1)];exact h2⟩
 ·exact absurd (by rw[e];trivial) hqn
 ·rw[k1 t 3 (.inr (by omega))]at h2 ⊢
  rcases hfg with g|g
  ·exact D.g1 t ht (by omega) h2 r hr hh
  ·exact fun e=>g r hr ⟨hh,by rw[e];exact h2⟩
 ·rcases hfg with g|g
  ·exact D.g2 t ht (Nat.le_trans h1 g) r hr hh
  ·exact fun e=>g r hr ⟨hh,e⟩
end Qk
end
section
namespace Qg
open Qs
variable {X:Cx}{ptr:Int}{s s':A}{p p':Nat→Pos}{L L':List Nat}{B:Int}{t u:Nat}
theorem setR_self(s:A)(t k:Nat)(v:Int)(i:Nat):(s.setR t k v).reg t i=if i=k then v else s.reg t i:=by rw[setR_reg];rfl
theorem setR_at(s:A)(t k:Nat)(v:Int):(s.setR t k v).reg t k=v:=by rw[setR_self,if_pos rfl]
theorem setR_off(s:A)(t k:Nat)(v:Int){i:Nat}(h:i≠k):(s.setR t k v).reg t i=s.reg t i:=by rw[setR_self,if_neg h]
end Qg
end
section
namespace Qk
open Qs Qg
variable {K:Ck}{s s':A}{p:Nat→Pos}{fl:Nat→Fl}{R R':Int→Ro}{t u:Nat}{P q:Pos}{f f':Fl}{L:List Nat}{B:Int}{c d d':Nat}
theorem hold_cl(h:hold q):∃d,q=.cl 1 d:=by
 unfold hold at h
 split at h
 ·exact ⟨_,rfl⟩
 ·exact h.elim
theorem HInv.own(C:Core K.X s p (oldR s p R) L B)(D:CG K s p fl R)(ht:t<K.X.n)(hp:p t=.cl c d)(q:Pos)(f':Fl)(hst:startD K.X.f q=some d')(hd:d'<100)(hdd:K.X.f≠3→d'=d)
  (e1:∀u,u≠t→s'.reg u=s.reg u) (e2:∀u,u≠t→s'.buf u=s.buf u) (r6:s'.reg t 6=s.reg t 6) (r7:s'.reg t 7=s.reg t 7) (lb:List En) (hb:s'.buf t=s.buf t++lb) (hlb:∀e∈lb,¬K.X.gr e.a) (hgv:∀x w,K.X.gr x→s'.val x w=s.val x w)
  (hR:∀x u,u≠t→(R' x=.mine u↔R x=.mine u)) (hv:∀u x w,u≠t→R x=.mine u→s'.val x w=s.val x w) (hlv:∀u,u<K.X.n→u≠t→s'.val (K.lc u) (K.lw u)=s.val (K.lc u) (K.lw u))
  (hz:R' 0=.no) (hh:∀x,R' x≠.no→s'.here x=true) (hsp:∀x,K.spec x→R' x=.sp) (ht12:∀w,w≠0→s'.val K.top w=s.val K.top w) (ht0:R' (s'.val K.top 0)=.pub) (hpb:∀x,R' x=.pub→K.V (s'.val x 0))
  (T:Ths K s' R' t q f') (hho:∀r,r<K.X.n→r≠t→hold (p r)→(R' (s.reg r 0)=.pub∨∃w,R' (s.reg r 0)=.mine w)∧K.V (s'.val (s.reg r 0) 0))
  (hq:∀d,q=.cl 1 d→0<d∧R' (s'.reg t 0)=.pub) (hg1:1≤f'.g→R' (s'.reg t 3)=.mine t→∀r,r<K.X.n→r≠t→hold (p r)→s.reg r 0≠s'.reg t 3) (hg2:2≤f'.g→∀r,r<K.X.n→r≠t→hold (p r)→R' (s.reg r 0)≠.mine t) :
  HInv K s' (upd p t q) (updF fl t f') B:=by
 refine ⟨L,R',C.client ht hp q hst hd hdd e1 e2 hgv r6 r7 lb hb hlb (fun u r hu hr hut ho=>?_) (fun u r hu hr ho=>?_),D.own ht q f' e1 e2 hR hv hlv hz hh hsp ht12 ht0 hpb T hho hq hg1 hg2⟩
 ·obtain ⟨h1,h2⟩:=ho
  by_cases e:r=t
  ·subst e
   rw[upd_same]at h1
   obtain ⟨d2,hd2⟩:=hold_cl h1
   rw[(hq d2 hd2).2]at h2;cases h2
  ·rw[upd_ne _ _ e]at h1
   rw[e1 r e]at h2
   exact ⟨h1,(hR _ u hut).1 h2⟩
 ·obtain ⟨h1,h2⟩:=ho
  by_cases e:r=t
  ·subst e
   rw[upd_same]at h1 ⊢
   obtain ⟨d2,hd2⟩:=hold_cl h1
   exact ⟨1,d2,hd2,(hq d2 hd2).1⟩
  ·rw[upd_ne _ _ e]at h1 ⊢
   obtain ⟨d2,hd2⟩:=hold_cl h1
   exact ⟨1,d2,hd2,D.hd r hr d2 hd2⟩
theorem HInv.loc(I:HInv K s p fl B)(ht:t<K.X.n)(hp:p t=.cl c d)(q:Pos)(f':Fl)(hst:startD K.X.f q=some d')(hd:d'<100)(hdd:K.X.f≠3→d'=d)
  (e1:∀u,u≠t→s'.reg u=s.reg u) (e2:∀u,u≠t→s'.buf u=s.buf u) (r67:s'.reg t 6=s.reg t 6∧s'.reg t 7=s.reg t 7) (lb:List En) (hb:s'.buf t=s.buf t++lb) (hlb:∀e∈lb,¬K.X.gr e.a) (hv:s'.val=s.val) (hh:s'.here=s.here)
  (hq:∀d,q=.cl 1 d→0<d∧s'.reg t 0=s.val K.top 0) (hg:f'.g=0∨((s'.reg t 3=0∨s'.reg t 3=s.reg t 3)∧f'.g≤(fl t).g))
  (T:∀R,CG K s p fl R→Ths K s' R t q f'):HInv K s' (upd p t q) (updF fl t f') B:=by
 obtain ⟨L,R,C,D⟩:=I
 refine HInv.own C D ht hp q f' hst hd hdd e1 e2 r67.1 r67.2 lb hb hlb (fun x w _=>by rw[hv]) (fun _ _ _=>Iff.rfl) (fun _ _ _ _ _=>by rw[hv]) (fun _ _ _=>by rw[hv]) D.z (fun x hx=>by rw[hh];exact D.hr x hx) D.sp (fun _ _=>by rw[hv]) (by rw[hv];exact D.t0) (fun x hx=>by rw[hv];exact D.pb x hx) (T R D) (fun r hr _ h=>by rw[hv];exact D.ho r hr h) (fun d2 e=>⟨(hq d2 e).1,by rw[(hq d2 e).2];exact D.t0⟩) (fun h1 h2 r hr hne h=>?_) (fun h1 r hr hne h=>?_)
 ·rcases hg with g|⟨g,g2⟩
  ·omega
  ·rcases g with g|g
   ·rw[g,D.z]at h2;cases h2
   ·rw[g]at h2 ⊢;exact D.g1 t ht (by omega) h2 r hr h
 ·rcases hg with g|⟨g,g2⟩
  ·omega
  ·exact D.g2 t ht (by omega) r hr h
theorem rset_eq(rg:Nat→Int)(k:Nat)(v:Int)(i:Nat):rset rg k v i=if i=k then v else rg i:=rfl
theorem Ths.setR(T:Ths K s R t P f){k:Nat}(hk:k≠5)(v:Int)(hH:∀l,ChL (s.vw t) K.nx (s.vw t (K.lc t) (K.lw t)) l→(∀x∈l,x≠0∧R x=.mine t)→K.Hnd (s.reg t) (s.vw t) R t l f P→K.Hnd (rset (s.reg t) k v) (s.vw t) R t l f' q):Ths K (s.setR t k v) R t q f':=by
 obtain ⟨r5,bf,l,h1,h2,h3,h4⟩:=T
 refine ⟨by rw[setR_reg,rset_eq,if_neg (fun e=>hk e.symm)];exact r5,bf,l,h1,h2,h3,?_⟩
 rw[setR_reg];exact hH l h1 h2 h4
theorem Ths.nop(T:Ths K s R t P f)(hH:∀l,ChL (s.vw t) K.nx (s.vw t (K.lc t) (K.lw t)) l→(∀x∈l,x≠0∧R x=.mine t)→K.Hnd (s.reg t) (s.vw t) R t l f P→K.Hnd (s.reg t) (s.vw t) R t l f' q):Ths K s R t q f':=by
 obtain ⟨r5,bf,l,h1,h2,h3,h4⟩:=T
 exact ⟨r5,bf,l,h1,h2,h3,hH l h1 h2 h4⟩
theorem HInv.set(I:HInv K s p fl B)(ht:t<K.X.n)(hp:p t=.cl c d)(q:Pos)(f':Fl)(hst:startD K.X.f q=some d')(hd:d'<100)(hdd:K.X.f≠3→d'=d){k:Nat}(hk:k<5)(v:Int)
  (hq:∀d,q=.cl 1 d→0<d∧k=0∧v=s.val K.top 0) (hg:f'.g=0∨((k=3→v=0)∧f'.g≤(fl t).g))
  (hH:∀R l,CG K s p fl R→ChL (s.vw t) K.nx (s.vw t (K.lc t) (K.lw t)) l→(∀x∈l,x≠0∧R x=.mine t)→K.Hnd (s.reg t) (s.vw t) R t l (fl t) (.cl c d)→K.Hnd (rset (s.reg t) k v) (s.vw t) R t l f' q):HInv K (s.setR t k v) (upd p t q) (updF fl t f') B:=by
 refine I.loc ht hp q f' hst hd hdd (fun u hu=>setR_ne _ _ _ hu) (fun _ _=>rfl) ⟨setR_off _ _ _ _ (by omega),setR_off _ _ _ _ (by omega)⟩ [] (by rw[List.append_nil];rfl) (fun e he=>by cases he) rfl rfl (fun d2 e=>?_) ?_ (fun R D=>?_)
 ·obtain ⟨a1,rfl,a3⟩:=hq d2 e
  exact ⟨a1,by rw[setR_at];exact a3⟩
 ·rcases hg with g|⟨g,g2⟩
  ·exact .inl g
  ·refine .inr ⟨?_,g2⟩
   by_cases e:k=3
   ·left;subst e;rw[setR_at];exact g rfl
   ·right;exact setR_off _ _ _ _ (fun h=>e h.symm)
 ·have T:=D.th t ht
  rw[hp]at T
  exact T.setR (by omega) v fun l h1 h2 h4=>hH R l D h1 h2 h4
theorem HInv.nop(I:HInv K s p fl B)(ht:t<K.X.n)(hp:p t=.cl c d)(q:Pos)(f':Fl)(hst:startD K.X.f q=some d')(hd:d'<100)(hdd:K.X.f≠3→d'=d)
  (hq:∀d,q≠.cl 1 d) (hg:f'.g=0∨f'.g≤(fl t).g)
  (hH:∀R l,CG K s p fl R→ChL (s.vw t) K.nx (s.vw t (K.lc t) (K.lw t)) l→(∀x∈l,x≠0∧R x=.mine t)→K.Hnd (s.reg t) (s.vw t) R t l (fl t) (.cl c d)→K.Hnd (s.reg t) (s.vw t) R t l f' q):HInv K s (upd p t q) (updF fl t f') B:=by
 refine I.loc ht hp q f' hst hd hdd (fun u hu=>rfl) (fun _ _=>rfl) ⟨rfl,rfl⟩ [] (List.append_nil _).symm (fun e he=>by cases he) rfl rfl (fun d2 e=>absurd e (hq d2)) (hg.imp id fun g=>⟨.inr rfl,g⟩) (fun R D=>?_)
 have T:=D.th t ht
 rw[hp]at T
 exact T.nop fun l h1 h2 h4=>hH R l D h1 h2 h4
theorem top_vw(D:CG K s p fl R)(ht:t<K.X.n)(w:Nat):s.vw t K.top w=s.val K.top w:=vw_free fun e he ha=>by
 rcases (D.th t ht).bufs e he with g|g|g
 ·exact absurd (ha ▸ g) K.tg
 ·exact absurd (g.1.symm.trans ha) (K.lt t)
 ·have:=sp_top D;rw[←ha,g.1]at this;cases this
theorem hold_vw(D:CG K s p fl R)(ht:t<K.X.n)(h:hold (p t)):s.here (s.reg t 0)=true∧K.V (s.vw t (s.reg t 0) 0):=by
 obtain ⟨h1,h2⟩:=D.ho t ht h
 refine ⟨D.hr _ (by rcases h1 with h1|⟨w,h1⟩ <;> rw[h1] <;> simp),lk1_all h2 fun e he ha hw=>?_⟩
 rcases (D.th t ht).bufs e he with g|g|g
 ·rw[ha]at g
  rw[sp_gr D g]at h1
  rcases h1 with h1|⟨w,h1⟩ <;> cases h1
 ·rw[←ha,g.1,sp_lc D ht]at h1
  rcases h1 with h1|⟨w,h1⟩ <;> cases h1
 ·exact g.2 hw
theorem HInv.top(I:HInv K s p fl B)(ht:t<K.X.n):s.reg t 5=K.top∧s.here K.top=true∧(∀w,s.vw t K.top w=s.val K.top w)∧s.val K.top (1+t/4)=K.lc t∧s.here (K.lc t)=true:=by
 obtain ⟨L,R,C,D⟩:=I
 exact ⟨(D.th t ht).r5,D.hr _ (by rw[sp_top D];simp),fun w=>top_vw D ht w,D.t12 t ht,D.hr _ (by rw[sp_lc D ht];simp)⟩
theorem HInv.c0(I:HInv K s p fl B)(ht:t<K.X.n)(hp:p t=.cl 0 d)(hd:d<100)(hd0:0<d)(f':Fl)(hr:f'.r=false→(fl t).r=false)(hg:f'.g≤(fl t).g):HInv K (s.setR t 0 (s.vw t (s.reg t 5) 0)) (upd p t (.cl 1 d)) (updF fl t f') B:=by
 obtain ⟨h1,h2,h3,h4,h5⟩:=I.top ht
 refine I.set ht hp _ f' (d':=d) rfl hd (fun _=>rfl) (by omega) _ (fun d2 e=>by cases e;exact ⟨hd0,rfl,by rw[h1,h3]⟩) (.inr ⟨fun e=>(by cases e),hg⟩) fun R l D _ _ h=>?_
 exact Gen.regs h (by rw[rset_eq,if_neg (by decide)]) hr
theorem HInv.c1(I:HInv K s p fl B)(ht:t<K.X.n)(hp:p t=.cl 1 d)(hd:d<100)(f':Fl)(hr:f'.r=false→(fl t).r=false)(hg:f'.g≤(fl t).g):s.here (s.reg t 0)=true∧HInv K (s.setR t 4 (s.vw t (s.reg t 0) 0)) (upd p t (.cl 2 d)) (updF fl t f') B:=by
 have I0:=I
 obtain ⟨L,R,C,D⟩:=I
 obtain ⟨h1,h2⟩:=hold_vw D ht (by rw[hp];trivial)
 refine ⟨h1,I0.set ht hp _ f' (d':=d) rfl hd (fun _=>rfl) (by omega) _ (fun d2 e=>by cases e) (.inr ⟨fun e=>(by cases e),hg⟩) fun R l D _ _ h=>?_⟩
 exact ⟨Gen.regs h (by rw[rset_eq,if_neg (by decide)]) hr,by rw[rset_eq,if_pos rfl];exact h2⟩
theorem HInv.c2(I:HInv K s p fl B)(ht:t<K.X.n)(hp:p t=.cl 2 d)(hd:d<100)(f':Fl)(hr:f'.r=false→(fl t).r=false)(hg:f'.g≤(fl t).g):s.reg t 4≠0∧HInv K s (upd p t (.cl 3 d)) (updF fl t f') B:=by
 have I0:=I
 obtain ⟨L,R,C,D⟩:=I
 obtain ⟨r5,bf,l,h1,h2,h3,h4⟩:=D.th t ht
 rw[hp]at h4
 refine ⟨K.V0 _ h4.2,I0.nop ht hp _ f' (d':=d) rfl hd (fun _=>rfl) (fun d2 e=>by cases e) (.inr hg) fun R l D _ _ h=>⟨Gen.regs h.1 rfl hr,h.2⟩⟩
structure Beg2(f0 d:Nat)(q:Pos)(f f':Fl):Prop where
 gq:genQ q=true
 st:∃d',startD f0 q=some d'∧d'<100∧(f0≠3→d'=d)
 r:f'.r=false→f.r=false
 g:f'.g≤f.g
theorem genQ_ne1(h:genQ q=true):∀d,q≠.cl 1 d:=fun d e=>by rw[e]at h;cases h
theorem HInv.c3(I:HInv K s p fl B)(ht:t<K.X.n)(hp:p t=.cl 3 d)(b:Beg2 K.X.f d q (fl t) f'):K.V (s.reg t 4)∧HInv K s (upd p t q) (updF fl t f') B:=by
 have I0:=I
 obtain ⟨L,R,C,D⟩:=I
 obtain ⟨r5,bf,l,h1,h2,h3,h4⟩:=D.th t ht
 rw[hp]at h4
 obtain ⟨d',b1,b2,b3⟩:=b.st
 exact ⟨h4.2,I0.nop ht hp _ f' b1 b2 b3 (genQ_ne1 b.gq) (.inr b.g) fun R l D _ _ h=>(Hnd_gen b.gq).2 (Gen.regs h.1 rfl b.r)⟩
theorem HInv.cend(I:HInv K s p fl B)(ht:t<K.X.n)(hp:p t=.cl c d)(hc:genQ (.cl c d)=true)(b:Beg2 K.X.f d q (fl t) f'):HInv K s (upd p t q) (updF fl t f') B:=by
 obtain ⟨d',b1,b2,b3⟩:=b.st
 exact I.nop ht hp _ f' b1 b2 b3 (genQ_ne1 b.gq) (.inr b.g) fun R l D _ _ h=>(Hnd_gen b.gq).2 (Gen.regs ((Hnd_gen hc).1 h) rfl b.r)
theorem HInv.c11z(I:HInv K s p fl B)(ht:t<K.X.n)(hp:p t=.cl 11 d)(hd:d<100)(f':Fl)(hg:f'.g=0)(hz:s.reg t 4=0):HInv K s (upd p t (.cl 16 d)) (updF fl t f') B:=
 I.nop ht hp _ f' (d':=d) rfl hd (fun _=>rfl) (fun d2 e=>by cases e) (.inl hg) fun R l D _ _ h=>⟨.inl h.1,fun _=>h.1⟩
theorem HInv.c11(I:HInv K s p fl B)(ht:t<K.X.n)(hp:p t=.cl 11 d)(hd:d<100)(f':Fl)(hg:f'.g=0)(hz:s.reg t 4≠0):HInv K s (upd p t (.cl 12 d)) (updF fl t f') B:=
 I.nop ht hp _ f' (d':=d) rfl hd (fun _=>rfl) (fun d2 e=>by cases e) (.inl hg) fun R l D _ _ h=>⟨h.1,h.2.resolve_left hz⟩
theorem HInv.c12(I:HInv K s p fl B)(ht:t<K.X.n)(hp:p t=.cl 12 d)(hd:d<100)(f':Fl)(hg:f'.g=0){v:Int}(hv:K.V v):HInv K (s.setR t 0 v) (upd p t (.cl 13 d)) (updF fl t f') B:=
 I.set ht hp _ f' (d':=d) rfl hd (fun _=>rfl) (by omega) _ (fun d2 e=>by cases e) (.inl hg) fun R l D _ _ h=>⟨by rw[rset_eq,if_neg (by decide)];exact h.1,by rw[rset_eq,if_neg (by decide)];exact h.2,by rw[rset_eq,if_pos rfl];exact hv⟩
theorem HInv.c15(I:HInv K s p fl B)(ht:t<K.X.n)(hp:p t=.cl 15 d)(hd:d<100)(f':Fl)(hg:f'.g=0)(hr:f'.r=true):HInv K (s.setR t 3 (s.reg t 4)) (upd p t (.cl 16 d)) (updF fl t f') B:=
 I.set ht hp _ f' (d':=d) rfl hd (fun _=>rfl) (by omega) _ (fun d2 e=>by cases e) (.inl hg) fun R l D _ _ h=>⟨.inr (by rw[rset_eq,if_pos rfl];exact h),fun e=>by rw[hr]at e;cases e⟩
theorem HInv.cz(I:HInv K s p fl B)(ht:t<K.X.n)(hp:p t=.cl c d)(hc:c=20∨c=30)(hd:d<100)(f':Fl)(hg:f'.g≤(fl t).g)(hz:s.reg t 3=0){c':Nat}(hc':c'=23∨c'=36):HInv K s (upd p t (.cl c' d)) (updF fl t f') B:=
 I.nop ht hp _ f' (d':=d) rfl hd (fun _=>rfl) (fun d2 e=>by rcases hc' with rfl|rfl <;> cases e) (.inr hg) fun R l D _ _ h=>by
  have hG:Gen (s.reg t) R t l f':=⟨.inl hz,fun _=>hz⟩
  rcases hc' with rfl|rfl <;> exact hG
theorem HInv.cnz(I:HInv K s p fl B)(ht:t<K.X.n)(hp:p t=.cl c d)(hd:d<100)(f':Fl)(hg:f'.g≤(fl t).g)(hz:s.reg t 3≠0){c':Nat}(hc:c=20∧c'=21∨c=30∧c'=31):HInv K s (upd p t (.cl c' d)) (updF fl t f') B:=
 I.nop ht hp _ f' (d':=d) rfl hd (fun _=>rfl) (fun d2 e=>by rcases hc with ⟨_,rfl⟩|⟨_,rfl⟩ <;> cases e) (.inr hg) fun R l D _ _ h=>by
  rcases hc with ⟨rfl,rfl⟩|⟨rfl,rfl⟩
  ·exact (h:Gen _ _ _ _ _).1.resolve_left hz
  ·exact (h:Gen _ _ _ _ _).1.resolve_left hz
theorem HInv.c22(I:HInv K s p fl B)(ht:t<K.X.n)(hp:p t=.cl c d)(hd:d<100)(f':Fl)(hg:f'.g≤(fl t).g){c':Nat}(hc:c=22∧c'=23∨c=35∧c'=36):HInv K (s.setR t 3 0) (upd p t (.cl c' d)) (updF fl t f') B:=
 I.set ht hp _ f' (d':=d) rfl hd (fun _=>rfl) (by omega) _ (fun d2 e=>by rcases hc with ⟨_,rfl⟩|⟨_,rfl⟩ <;> cases e) (.inr ⟨fun _=>rfl,hg⟩) fun R l D _ _ h=>by
  have hG:Gen (rset (s.reg t) 3 0) R t l f':=⟨.inl rfl,fun _=>rfl⟩
  rcases hc with ⟨_,rfl⟩|⟨_,rfl⟩ <;> exact hG
theorem HInv.c31(I:HInv K s p fl B)(ht:t<K.X.n)(hp:p t=.cl 31 d)(hd:d<100)(f':Fl)(hg:f'.g≤(fl t).g):HInv K (s.setR t 2 (s.vw t (s.reg t 5) (1+t/4))) (upd p t (.cl 32 d)) (updF fl t f') B:=by
 obtain ⟨h1,h2,h3,h4,h5⟩:=I.top ht
 refine I.set ht hp _ f' (d':=d) rfl hd (fun _=>rfl) (by omega) _ (fun d2 e=>by cases e) (.inr ⟨fun e=>(by cases e),hg⟩) fun R l D _ _ h=>⟨by rw[rset_eq,if_neg (by decide)];exact h,by rw[rset_eq,if_pos rfl,h1,h3,h4]⟩
theorem HInv.c32(I:HInv K s p fl B)(ht:t<K.X.n)(hp:p t=.cl 32 d)(hd:d<100)(f':Fl)(hg:f'.g≤(fl t).g):s.reg t 2=K.lc t∧HInv K (s.setR t 0 (s.vw t (s.reg t 2) (K.lw t))) (upd p t (.cl 33 d)) (updF fl t f') B:=by
 have h2:s.reg t 2=K.lc t:=by
  obtain ⟨L,R,C,D⟩:=I
  obtain ⟨r5,bf,l,h1,h2,h3,h4⟩:=D.th t ht
  rw[hp]at h4;exact h4.2
 refine ⟨h2,I.set ht hp _ f' (d':=d) rfl hd (fun _=>rfl) (by omega) _ (fun d2 e=>by cases e) (.inr ⟨fun e=>(by cases e),hg⟩) fun R l D _ _ h=>⟨by rw[rset_eq,if_neg (by decide)];exact h.1,by rw[rset_eq,if_neg (by decide)];exact h.2,by rw[rset_eq,if_pos rfl,h2]⟩⟩
theorem HInv.c40(I:HInv K s p fl B)(ht:t<K.X.n)(hp:p t=.cl 40 d)(hd:d<100)(f':Fl)(hr:f'.r=false→(fl t).r=false)(hg:f'.g≤(fl t).g)(hg2:2≤f'.g):HInv K (s.setR t 2 (s.vw t (s.reg t 5) (1+t/4))) (upd p t (.cl 41 d)) (updF fl t f') B:=by
 obtain ⟨h1,h2,h3,h4,h5⟩:=I.top ht
 refine I.set ht hp _ f' (d':=d) rfl hd (fun _=>rfl) (by omega) _ (fun d2 e=>by cases e) (.inr ⟨fun e=>(by cases e),hg⟩) fun R l D _ _ h=>⟨Gen.regs h.1 (by rw[rset_eq,if_neg (by decide)]) hr,hg2,by rw[rset_eq,if_pos rfl,h1,h3,h4]⟩
theorem HInv.c41(I:HInv K s p fl B)(ht:t<K.X.n)(hp:p t=.cl c d)(hd:d<100)(f':Fl)(hr:f'.r=false→(fl t).r=false)(hg:f'.g≤(fl t).g)(hg2:2≤f'.g){c':Nat}(hc:c=41∧c'=42∨c=47∧c'=41):HInv K s (upd p t (.cl c' d)) (updF fl t f') B:=
 I.nop ht hp _ f' (d':=d) rfl hd (fun _=>rfl) (fun d2 e=>by rcases hc with ⟨_,rfl⟩|⟨_,rfl⟩ <;> cases e) (.inr hg) fun R l D _ _ h=>by
  rcases hc with ⟨rfl,rfl⟩|⟨rfl,rfl⟩
  ·exact ⟨Gen.regs h.1 rfl hr,hg2,h.2.2⟩
  ·exact ⟨Gen.regs h.1 rfl hr,hg2,h.2.2⟩
theorem HInv.r2(I:HInv K s p fl B)(ht:t<K.X.n)(hp:p t=.cl c d)(hc:c=42∨c=43∨c=44∨c=45∨c=34∨c=33):s.reg t 2=K.lc t:=by
 obtain ⟨L,R,C,D⟩:=I
 obtain ⟨r5,bf,l,h1,h2,h3,h4⟩:=D.th t ht
 rw[hp]at h4
 rcases hc with rfl|rfl|rfl|rfl|rfl|rfl
 ·exact h4.2.2
 ·exact h4.2.2.1
 ·exact h4.2.2.1
 ·exact h4.2.2.1
 ·exact h4.2.1
 ·exact h4.2.1
theorem HInv.c42(I:HInv K s p fl B)(ht:t<K.X.n)(hp:p t=.cl 42 d)(hd:d<100)(f':Fl)(hr:f'.r=false→(fl t).r=false)(hg:f'.g≤(fl t).g)(hg2:2≤f'.g):HInv K (s.setR t 0 (s.vw t (s.reg t 2) (K.lw t))) (upd p t (.cl 43 d)) (updF fl t f') B:=by
 have h2:=I.r2 ht hp (.inl rfl)
 refine I.set ht hp _ f' (d':=d) rfl hd (fun _=>rfl) (by omega) _ (fun d2 e=>by cases e) (.inr ⟨fun e=>(by cases e),hg⟩) fun R l D _ _ h=>⟨Gen.regs h.1 (by rw[rset_eq,if_neg (by decide)]) hr,hg2,by rw[rset_eq,if_neg (by decide)];exact h2,by rw[rset_eq,if_pos rfl,h2]⟩
theorem HInv.c43z(I:HInv K s p fl B)(ht:t<K.X.n)(hp:p t=.cl 43 d)(hd:d<100)(f':Fl)(hr:f'.r=false→(fl t).r=false)(hg:f'.g≤(fl t).g):HInv K s (upd p t (.cl 48 d)) (updF fl t f') B:=
 I.nop ht hp _ f' (d':=d) rfl hd (fun _=>rfl) (fun d2 e=>by cases e) (.inr hg) fun R l D _ _ h=>Gen.regs h.1 rfl hr
theorem HInv.c43(I:HInv K s p fl B)(ht:t<K.X.n)(hp:p t=.cl 43 d)(hd:d<100)(f':Fl)(hr:f'.r=false→(fl t).r=false)(hg:f'.g≤(fl t).g)(hg2:2≤f'.g)(hz:s.reg t 0≠0):HInv K s (upd p t (.cl 44 d)) (updF fl t f') B:=
 I.nop ht hp _ f' (d':=d) rfl hd (fun _=>rfl) (fun d2 e=>by cases e) (.inr hg) fun R l D _ _ h=>⟨Gen.regs h.1 rfl hr,hg2,h.2.2.1,h.2.2.2,hz⟩
theorem HInv.c44(I:HInv K s p fl B)(ht:t<K.X.n)(hp:p t=.cl 44 d)(hd:d<100)(f':Fl)(hr:f'.r=false→(fl t).r=false)(hg:f'.g≤(fl t).g)(hg2:2≤f'.g):s.here (s.reg t 0)=true∧HInv K (s.setR t 1 (s.vw t (s.reg t 0) K.nx)) (upd p t (.cl 45 d)) (updF fl t f') B:=by
 have hh:s.here (s.reg t 0)=true:=by
  obtain ⟨L,R,C,D⟩:=I
  obtain ⟨r5,bf,l,h1,h2,h3,h4⟩:=D.th t ht
  rw[hp]at h4
  obtain ⟨a1,a2,a3,a4,a5⟩:=h4
  cases l with
  |nil=>exact absurd (a4.trans h1) a5
  |cons y l=>exact D.hr _ (by rw[a4.trans h1.1,(h2 y (by simp)).2];simp)
 refine ⟨hh,I.set ht hp _ f' (d':=d) rfl hd (fun _=>rfl) (by omega) _ (fun d2 e=>by cases e) (.inr ⟨fun e=>(by cases e),hg⟩) fun R l D _ _ h=>?_⟩
 obtain ⟨a1,a2,a3,a4,a5⟩:=h
 exact ⟨Gen.regs a1 (by rw[rset_eq,if_neg (by decide)]) hr,hg2,by rw[rset_eq,if_neg (by decide)];exact a3,by rw[rset_eq,if_neg (by decide)];exact a4,by rw[rset_eq,if_neg (by decide)];exact a5,by rw[rset_eq,if_pos rfl,rset_eq,if_neg (by decide)]⟩
end Qk
end
section
namespace Qk
open Qs Qg
variable {K:Ck}{s s':A}{p:Nat→Pos}{fl:Nat→Fl}{R R':Int→Ro}{t u:Nat}{P q:Pos}{f f':Fl}{L:List Nat}{B:Int}{c d d':Nat}
theorem HInv.push(I:HInv K s p fl B)(ht:t<K.X.n)(hp:p t=.cl c d){c':Nat}(hc':c'≠1)(f':Fl)(hd:d<100)(hg:f'.g=0∨f'.g≤(fl t).g)(e:En)(hne:¬K.X.gr e.a)
  (T:∀R l,CG K s p fl R→ChL (s.vw t) K.nx (s.vw t (K.lc t) (K.lw t)) l→(∀x∈l,x≠0∧R x=.mine t)→l.Nodup→K.Hnd (s.reg t) (s.vw t) R t l (fl t) (.cl c d)→
   ((e.a=K.lc t∧e.w=K.lw t)∨(R e.a=.mine t∧(e.w=0→K.V e.v)))∧∃l',ChL ((s.setB t (s.buf t++[e])).vw t) K.nx ((s.setB t (s.buf t++[e])).vw t (K.lc t) (K.lw t)) l'∧(∀x∈l',x≠0∧R x=.mine t)∧l'.Nodup∧K.Hnd (s.reg t) ((s.setB t (s.buf t++[e])).vw t) R t l' f' (.cl c' d)) :
  HInv K (s.setB t (s.buf t++[e])) (upd p t (.cl c' d)) (updF fl t f') B:=by
 refine I.loc ht hp _ f' (d':=d) rfl hd (fun _=>rfl) (fun u hu=>rfl) (fun u hu=>setB_ne _ _ hu) ⟨rfl,rfl⟩ [e] (setB_buf _ _ _) (fun y hy=>by rw[List.mem_singleton.1 hy];exact hne) rfl rfl (fun d2 g=>by cases g;exact absurd rfl hc') (hg.imp id fun g=>⟨.inr rfl,g⟩) (fun R D=>?_)
 have Tt:=D.th t ht
 rw[hp]at Tt
 obtain ⟨r5,bf,l,h1,h2,h3,h4⟩:=Tt
 obtain ⟨a1,l',a2,a3,a4,a5⟩:=T R l D h1 h2 h3 h4
 refine ⟨r5,fun y hy=>?_,l',a2,a3,a4,a5⟩
 rw[setB_buf]at hy
 rcases List.mem_append.1 hy with g|g
 ·exact bf y g
 ·rw[List.mem_singleton.1 g];exact .inr a1
theorem HInv.c13(I:HInv K s p fl B)(ht:t<K.X.n)(hp:p t=.cl 13 d)(hd:d<100)(f':Fl)(hg:f'.g=0):s.here (s.reg t 4)=true∧HInv K (s.setB t (s.buf t++[⟨s.reg t 4,0,s.reg t 0⟩])) (upd p t (.cl 14 d)) (updF fl t f') B:=by
 have hh:s.here (s.reg t 4)=true∧¬K.X.gr (s.reg t 4):=by
  obtain ⟨L,R,C,D⟩:=I
  obtain ⟨r5,bf,l,h1,h2,h3,h4⟩:=D.th t ht
  rw[hp]at h4
  have hm:=h4.2.1.2.1
  exact ⟨D.hr _ (by rw[hm];simp),fun g=>by rw[sp_gr D g]at hm;cases hm⟩
 refine ⟨hh.1,I.push ht hp (by decide) f' hd (.inl hg) _ hh.2 fun R l D h1 h2 h3 h4=>?_⟩
 obtain ⟨a1,a2,a3⟩:=h4
 have hl:s.reg t 4≠K.lc t:=fun e=>by have:=a2.2.1;rw[e,sp_lc D ht]at this;cases this
 refine ⟨.inr ⟨a2.2.1,fun _=>a3⟩,l,?_,h2,h3,a1,a2,?_⟩
 ·rw[push_vw,if_neg (fun g=>hl g.1)]
  exact h1.keep fun x hx=>by rw[push_vw,if_neg (fun g=>K.n0 g.2.symm)]
 ·rw[push_vw,if_pos ⟨rfl,rfl⟩];exact a3
theorem HInv.c33(I:HInv K s p fl B)(ht:t<K.X.n)(hp:p t=.cl 33 d)(hd:d<100)(f':Fl)(hg:f'.g≤(fl t).g):s.here (s.reg t 3)=true∧HInv K (s.setB t (s.buf t++[⟨s.reg t 3,K.nx,s.reg t 0⟩])) (upd p t (.cl 34 d)) (updF fl t f') B:=by
 have hh:s.here (s.reg t 3)=true∧¬K.X.gr (s.reg t 3):=by
  obtain ⟨L,R,C,D⟩:=I
  obtain ⟨r5,bf,l,h1,h2,h3,h4⟩:=D.th t ht
  rw[hp]at h4
  have hm:=h4.1.2.1
  exact ⟨D.hr _ (by rw[hm];simp),fun g=>by rw[sp_gr D g]at hm;cases hm⟩
 refine ⟨hh.1,I.push ht hp (by decide) f' hd (.inr hg) _ hh.2 fun R l D h1 h2 h3 h4=>?_⟩
 obtain ⟨a1,a2,a3⟩:=h4
 have hl:s.reg t 3≠K.lc t:=fun e=>by have:=a1.2.1;rw[e,sp_lc D ht]at this;cases this
 refine ⟨.inr ⟨a1.2.1,fun g=>absurd g K.n0⟩,l,?_,h2,h3,a1,a2,?_⟩
 ·rw[push_vw,if_neg (fun g=>hl g.1)]
  exact h1.keep fun x hx=>by rw[push_vw,if_neg (fun g=>a1.2.2 (by rw[show s.reg t 3=x from g.1];exact hx))]
 ·rw[push_vw,if_pos ⟨rfl,rfl⟩,push_vw,if_neg (fun g=>hl g.1)];exact a3
theorem HInv.c34(I:HInv K s p fl B)(ht:t<K.X.n)(hp:p t=.cl 34 d)(hd:d<100)(f':Fl)(hg:f'.g=0):HInv K (s.setB t (s.buf t++[⟨K.lc t,K.lw t,s.reg t 3⟩])) (upd p t (.cl 35 d)) (updF fl t f') B:=by
 refine I.push ht hp (by decide) f' hd (.inl hg) _ (K.lg t) fun R l D h1 h2 h3 h4=>?_
 obtain ⟨a1,a2,a3⟩:=h4
 have hl:K.lc t≠s.reg t 3:=fun e=>by have:=a1.2.1;rw[←e,sp_lc D ht]at this;cases this
 have hll:∀x∈l,K.lc t≠x:=fun x hx e=>by have:=(h2 x hx).2;rw[←e,sp_lc D ht]at this;cases this
 refine ⟨.inl ⟨rfl,rfl⟩,s.reg t 3 :: l,⟨?_,?_⟩,fun x hx=>?_,List.nodup_cons.2 ⟨a1.2.2,h3⟩,trivial⟩
 ·rw[push_vw,if_pos ⟨rfl,rfl⟩]
 ·rw[push_vw,if_neg (fun g=>hl g.1),a3]
  exact h1.keep fun x hx=>by rw[push_vw,if_neg (fun g=>hll x hx g.1)]
 ·rcases List.mem_cons.1 hx with rfl|hx
  ·exact ⟨a1.1,a1.2.1⟩
  ·exact h2 x hx
theorem HInv.c45(I:HInv K s p fl B)(ht:t<K.X.n)(hp:p t=.cl 45 d)(hd:d<100)(f':Fl)(hr:f'.r=false→(fl t).r=false)(hg:f'.g≤(fl t).g)(hg2:2≤f'.g):HInv K (s.setB t (s.buf t++[⟨K.lc t,K.lw t,s.reg t 1⟩])) (upd p t (.cl 46 d)) (updF fl t f') B:=by
 refine I.push ht hp (by decide) f' hd (.inr hg) _ (K.lg t) fun R l D h1 h2 h3 h4=>?_
 obtain ⟨a1,a2,a3,a4,a5,a6⟩:=h4
 cases l with
 |nil=>exact absurd (a4.trans h1) a5
 |cons y l=>
  have hy:s.reg t 0=y:=a4.trans h1.1
  have hll:∀x∈y :: l,K.lc t≠x:=fun x hx e=>by have:=(h2 x hx).2;rw[←e,sp_lc D ht]at this;cases this
  obtain ⟨n1,n2⟩:=List.nodup_cons.1 h3
  refine ⟨.inl ⟨rfl,rfl⟩,l,?_,fun x hx=>h2 x (List.mem_cons_of_mem _ hx),n2,?_,hg2,a3,⟨a5,by rw[hy];exact (h2 y (by simp)).2,by rw[hy];exact n1⟩,fun e=>?_⟩
  ·rw[push_vw,if_pos ⟨rfl,rfl⟩]
   show ChL _ _ (s.reg t 1) l
   rw[a6,hy]
   exact h1.2.keep fun x hx=>by rw[push_vw,if_neg (fun g=>hll x (List.mem_cons_of_mem _ hx) g.1)]
  ·exact ⟨a1.1.imp id fun g=>⟨g.1,g.2.1,fun h=>g.2.2 (List.mem_cons_of_mem _ h)⟩,fun g=>a1.2 (hr g)⟩
  ·rcases a1.1 with g|g
   ·exact a5 (e.trans g)
   ·exact g.2.2 (by rw[←e,hy];simp)
theorem HInv.c10(I:HInv K s p fl B)(ht:t<K.X.n)(hp:p t=.cl 10 d)(hd:d<100)(f':Fl)(hg:f'.g=0)(hr:(fl t).r=false){na:Int}(hna:s.here na=false)(hn0:na≠0):HInv K ((s.give na).setR t 4 na) (upd p t (.cl 11 d)) (updF fl t f') B:=by
 obtain ⟨L,R,C,D⟩:=I
 have hRn:R na=.no:=by
  refine Classical.byContradiction fun h=>?_
  have:=D.hr na h
  rw[hna]at this;cases this
 have hne:∀x,R x≠.no→x≠na:=fun x h e=>h (by rw[e];exact hRn)
 have hval:∀x w,x≠na→((s.give na).setR t 4 na).val x w=s.val x w:=fun x w h=>if_neg h
 have hR':∀x,x≠na→(fun x=>if x=na then Ro.mine t else R x) x=R x:=fun x h=>if_neg h
 have htop:K.top≠na:=hne _ (by rw[sp_top D];simp)
 obtain ⟨r5,bf,l,h1,h2,h3,h4⟩:=D.th t ht
 rw[hp]at h4
 have h30:s.reg t 3=0:=h4.2 hr
 have hll:∀x∈l,x≠na:=fun x hx=>hne x (by rw[(h2 x hx).2];simp)
 have hvw:∀x w,x≠na→((s.give na).setR t 4 na).vw t x w=s.vw t x w:=fun x w h=>by
  unfold A.vw;rw[hval x w h];rfl
 refine HInv.own (R':=fun x=>if x=na then .mine t else R x) C D ht hp _ f' (d':=d) rfl hd (fun _=>rfl) (fun u hu=>setR_ne _ _ _ hu) (fun _ _=>rfl) (setR_off _ _ _ _ (by omega)) (setR_off _ _ _ _ (by omega)) [] (by rw[List.append_nil];rfl) (fun e he=>by cases he) (fun x w h=>hval x w (hne x (by rw[sp_gr D h];simp)))
  (fun x u hu=>?_) (fun u x w hu hx=>hval x w (hne x (by rw[hx];simp))) (fun u hu _=>hval _ _ (hne _ (by rw[sp_lc D hu];simp))) ?_ (fun x hx=>?_) (fun x hx=>?_) (fun w _=>hval _ w htop) ?_ (fun x hx=>?_) ⟨?_,fun e he=>?_,l,?_,fun x hx=>?_,h3,?_,?_⟩ (fun r hr2 hne2 h=>?_) (fun d2 e=>by cases e) (fun g=>by omega) (fun g=>by omega)
 ·by_cases e:x=na
  ·subst e
   show (if x=x then Ro.mine t else R x)=.mine u↔R x=.mine u
   rw[if_pos rfl,hRn]
   exact ⟨fun g=>(by cases g;exact absurd rfl hu),fun g=>(by cases g)⟩
  ·show (if x=na then Ro.mine t else R x)=.mine u↔_
   rw[if_neg e]
 ·show (if (0:Int)=na then Ro.mine t else R 0)=.no
  rw[if_neg (fun e=>hn0 e.symm)];exact D.z
 ·show (if x=na then true else s.here x)=true
  by_cases e:x=na
  ·rw[if_pos e]
  ·rw[if_neg e]
   exact D.hr x (by rw[←hR' x e];exact hx)
 ·show (if x=na then Ro.mine t else R x)=.sp
  have:=D.sp x hx
  rw[if_neg (hne x (by rw[this];simp))];exact this
 ·rw[hval _ 0 htop]
  show (if s.val K.top 0=na then Ro.mine t else R _)=.pub
  rw[if_neg (hne _ (by rw[D.t0];simp))];exact D.t0
 ·have hx':(if x=na then Ro.mine t else R x)=.pub:=hx
  by_cases e:x=na
  ·rw[if_pos e]at hx';cases hx'
  ·rw[if_neg e]at hx'
   rw[hval x 0 e];exact D.pb x hx'
 ·rw[setR_off _ _ _ _ (by omega)];exact r5
 ·rcases bf e he with g|g|g
  ·exact .inl g
  ·exact .inr (.inl g)
  ·refine .inr (.inr ⟨?_,g.2⟩)
   show (if e.a=na then Ro.mine t else R e.a)=.mine t
   rw[if_neg (hne _ (by rw[g.1];simp))];exact g.1
 ·rw[hvw _ _ (hne _ (by rw[sp_lc D ht];simp))]
  exact h1.keep fun x hx=>hvw x _ (hll x hx)
 ·refine ⟨(h2 x hx).1,?_⟩
  show (if x=na then Ro.mine t else R x)=.mine t
  rw[if_neg (hll x hx)];exact (h2 x hx).2
 ·rw[setR_off _ _ _ _ (by omega)];exact h30
 ·right
  rw[setR_at]
  exact ⟨hn0,if_pos rfl,fun h=>hll na h rfl⟩
 ·obtain ⟨g1,g2⟩:=D.ho r hr2 h
  have hx:s.reg r 0≠na:=hne _ (by rcases g1 with g|⟨w,g⟩ <;> rw[g] <;> simp)
  rw[hval _ 0 hx]
  refine ⟨?_,g2⟩
  show (if s.reg r 0=na then Ro.mine t else R (s.reg r 0))=.pub∨∃w,(if s.reg r 0=na then Ro.mine t else R (s.reg r 0))=.mine w
  rw[if_neg hx];exact g1
theorem HInv.c10z(I:HInv K s p fl B)(ht:t<K.X.n)(hp:p t=.cl 10 d)(hd:d<100)(f':Fl)(hg:f'.g=0)(hr:(fl t).r=false):HInv K (s.setR t 4 0) (upd p t (.cl 11 d)) (updF fl t f') B:=
 I.set ht hp _ f' (d':=d) rfl hd (fun _=>rfl) (by omega) _ (fun d2 e=>by cases e) (.inl hg) fun R l D _ _ h=>⟨by rw[rset_eq,if_neg (by decide)];exact h.2 hr,.inl (by rw[rset_eq,if_pos rfl])⟩
theorem HInv.free(I:HInv K s p fl B)(ht:t<K.X.n)(hp:p t=.cl c d){c':Nat}(hc':c'≠1)(f':Fl)(hd:d<100)(hg:f'.g≤(fl t).g)(hb:s.buf t=[]){a:Int}
  (T:∀R l,CG K s p fl R→ChL (s.vw t) K.nx (s.vw t (K.lc t) (K.lw t)) l→(∀x∈l,x≠0∧R x=.mine t)→l.Nodup→K.Hnd (s.reg t) (s.vw t) R t l (fl t) (.cl c d)→
   Own R t l a∧(∀r,r<K.X.n→hold (p r)→s.reg r 0≠a)∧K.Hnd (s.reg t) ((s.free a).vw t) (fun x=>if x=a then .no else R x) t l f' (.cl c' d)) :
  s.here a=true∧HInv K (s.free a) (upd p t (.cl c' d)) (updF fl t f') B:=by
 obtain ⟨L,R,C,D⟩:=I
 obtain ⟨r5,bf,l,h1,h2,h3,h4⟩:=D.th t ht
 rw[hp]at h4
 obtain ⟨t1,t2,t3⟩:=T R l D h1 h2 h3 h4
 have hRa:R a=.mine t:=t1.2.1
 have hval:∀x w,x≠a→(s.free a).val x w=s.val x w:=fun x w h=>if_neg h
 have hne:∀x,R x≠.mine t→x≠a:=fun x h e=>h (by rw[e];exact hRa)
 have hll:∀x∈l,x≠a:=fun x hx e=>t1.2.2 (e ▸ hx)
 have hvw:∀x w,x≠a→(s.free a).vw t x w=s.vw t x w:=fun x w h=>by
  unfold A.vw;rw[hval x w h];rfl
 refine ⟨D.hr a (by rw[hRa];simp),HInv.own (R':=fun x=>if x=a then .no else R x) C D ht hp _ f' (d':=d) rfl hd (fun _=>rfl) (fun u hu=>rfl) (fun _ _=>rfl) rfl rfl [] (by rw[List.append_nil];rfl) (fun e he=>by cases he) (fun x w h=>hval x w (hne x (by rw[sp_gr D h];simp)))
  (fun x u hu=>?_) (fun u x w hu hx=>hval x w (hne x (by rw[hx];simp;exact hu))) (fun u hu _=>hval _ _ (hne _ (by rw[sp_lc D hu];simp))) ?_ (fun x hx=>?_) (fun x hx=>?_) (fun w _=>hval _ w (hne _ (by rw[sp_top D];simp))) ?_ (fun x hx=>?_) ⟨r5,fun e he=>?_,l,?_,fun x hx=>?_,h3,t3⟩ (fun r hr2 hne2 h=>?_) (fun d2 e=>by cases e;exact absurd rfl hc') (fun g g2 r hr2 hne2 h=>?_) (fun g r hr2 hne2 h=>?_)⟩
 ·show (if x=a then Ro.no else R x)=.mine u↔R x=.mine u
  by_cases e:x=a
  ·rw[if_pos e,e,hRa]
   exact ⟨fun g=>(by cases g),fun g=>(by cases g;exact absurd rfl hu)⟩
  ·rw[if_neg e]
 ·show (if (0:Int)=a then Ro.no else R 0)=.no
  split
  ·rfl
  ·exact D.z
 ·have hx':(if x=a then Ro.no else R x)≠.no:=hx
  show (if x=a then false else s.here x)=true
  by_cases e:x=a
  ·rw[if_pos e]at hx';exact absurd rfl hx'
  ·rw[if_neg e]at hx' ⊢;exact D.hr x hx'
 ·show (if x=a then Ro.no else R x)=.sp
  have:=D.sp x hx
  rw[if_neg (hne x (by rw[this];simp))];exact this
 ·rw[hval _ 0 (hne _ (by rw[sp_top D];simp))]
  show (if s.val K.top 0=a then Ro.no else R _)=.pub
  rw[if_neg (hne _ (by rw[D.t0];simp))];exact D.t0
 ·have hx':(if x=a then Ro.no else R x)=.pub:=hx
  by_cases e:x=a
  ·rw[if_pos e]at hx';cases hx'
  ·rw[if_neg e]at hx'
   rw[hval x 0 e];exact D.pb x hx'
 ·have he':e∈s.buf t:=he
  rw[hb]at he';cases he'
 ·rw[hvw _ _ (hne _ (by rw[sp_lc D ht];simp))]
  exact h1.keep fun x hx=>hvw x _ (hll x hx)
 ·refine ⟨(h2 x hx).1,?_⟩
  show (if x=a then Ro.no else R x)=.mine t
  rw[if_neg (hll x hx)];exact (h2 x hx).2
 ·obtain ⟨g1,g2⟩:=D.ho r hr2 h
  have hx:=t2 r hr2 h
  rw[hval _ 0 hx]
  refine ⟨?_,g2⟩
  show (if s.reg r 0=a then Ro.no else R (s.reg r 0))=.pub∨∃w,(if s.reg r 0=a then Ro.no else R (s.reg r 0))=.mine w
  rw[if_neg hx];exact g1
 ·have g2':(if s.reg t 3=a then Ro.no else R (s.reg t 3))=.mine t:=g2
  by_cases e:s.reg t 3=a
  ·rw[if_pos e]at g2';cases g2'
  ·rw[if_neg e]at g2'
   exact D.g1 t ht (by omega) g2' r hr2 h
 ·show (if s.reg r 0=a then Ro.no else R (s.reg r 0))≠.mine t
  rw[if_neg (t2 r hr2 h)]
  exact D.g2 t ht (by omega) r hr2 h
theorem HInv.c21(I:HInv K s p fl B)(ht:t<K.X.n)(hp:p t=.cl 21 d)(hd:d<100)(f':Fl)(hg:f'.g≤(fl t).g)(hg1:1≤(fl t).g)(hb:s.buf t=[]):s.here (s.reg t 3)=true∧HInv K (s.free (s.reg t 3)) (upd p t (.cl 22 d)) (updF fl t f') B:=
 I.free ht hp (by decide) f' hd hg hb fun R l D h1 h2 h3 h4=>⟨h4,fun r hr h=>D.g1 t ht hg1 h4.2.1 r hr h,trivial⟩
theorem HInv.c46(I:HInv K s p fl B)(ht:t<K.X.n)(hp:p t=.cl 46 d)(hd:d<100)(f':Fl)(hr:f'.r=false→(fl t).r=false)(hg:f'.g≤(fl t).g)(hg2:2≤f'.g)(hb:s.buf t=[]):s.here (s.reg t 0)=true∧HInv K (s.free (s.reg t 0)) (upd p t (.cl 47 d)) (updF fl t f') B:=
 I.free ht hp (by decide) f' hd hg hb fun R l D h1 h2 h3 h4=>by
  obtain ⟨a1,a2,a3,a4,a5⟩:=h4
  refine ⟨a4,fun r hr2 h e=>D.g2 t ht a2 r hr2 h (by rw[e];exact a4.2.1),⟨a1.1.imp id fun g=>⟨g.1,?_,g.2.2⟩,fun g=>a1.2 (hr g)⟩,hg2,a3⟩
  show (if s.reg t 3=s.reg t 0 then Ro.no else R (s.reg t 3))=.mine t
  rw[if_neg (fun e=>a5 e.symm)];exact g.2.1
theorem HInv.c14(I:HInv K s p fl B)(ht:t<K.X.n)(hp:p t=.cl 14 d)(hd:d<100)(f':Fl)(hg:f'.g=0)(hb:s.buf t=[]) :
  HInv K ((s.put ⟨s.reg t 5,0,s.reg t 4⟩).setR t 4 (s.val (s.reg t 5) 0)) (upd p t (.cl 15 d)) (updF fl t f') B:=by
 obtain ⟨L,R,C,D⟩:=I
 obtain ⟨r5,bf,l,h1,h2,h3,h4⟩:=D.th t ht
 rw[hp]at h4
 obtain ⟨a1,a2,a3⟩:=h4
 rw[r5]
 obtain ⟨nw,hnw⟩:∃nw,nw=s.reg t 4:=⟨_,rfl⟩
 obtain ⟨od,hod⟩:∃od,od=s.val K.top 0:=⟨_,rfl⟩
 rw[←hnw]at a2 a3 ⊢
 rw[←hod]
 have t0:R od=.pub:=by rw[hod];exact D.t0
 have hon:od≠nw:=fun e=>by rw[e,a2.2.1]at t0;cases t0
 have hval:∀x w,x≠K.top∨w≠0→((s.put ⟨K.top,0,nw⟩).setR t 4 od).val x w=s.val x w:=fun x w h=>if_neg fun g=>h.elim (fun e=>e g.1) (fun e=>e g.2)
 have hv0:((s.put ⟨K.top,0,nw⟩).setR t 4 od).val K.top 0=nw:=if_pos ⟨rfl,rfl⟩
 have hnt:∀x,R x≠.sp→x≠K.top:=fun x h e=>h (by rw[e];exact sp_top D)
 have hR1:∀x,x≠od→x≠nw→(fun x=>if x=od then Ro.mine t else if x=nw then Ro.pub else R x) x=R x:=fun x h1 h2=>by
  show (if x=od then Ro.mine t else if x=nw then Ro.pub else R x)=R x
  rw[if_neg h1,if_neg h2]
 have hRo:(fun x=>if x=od then Ro.mine t else if x=nw then Ro.pub else R x) od=.mine t:=if_pos rfl
 have hRn:(fun x=>if x=od then Ro.mine t else if x=nw then Ro.pub else R x) nw=.pub:=by
  show (if nw=od then Ro.mine t else if nw=nw then Ro.pub else R nw)=.pub
  rw[if_neg (fun e=>hon e.symm),if_pos rfl]
 generalize (fun x=>if x=od then Ro.mine t else if x=nw then Ro.pub else R x)=R' at hR1 hRo hRn
 have hll:∀x∈l,R' x=R x:=fun x hx=>hR1 x (fun e=>by have:=(h2 x hx).2;rw[e,t0]at this;cases this) (fun e=>a2.2.2 (e ▸ hx))
 have hsp:∀x,R x=.sp→R' x=.sp:=fun x hx=>by rw[hR1 x (fun e=>by rw[e,t0]at hx;cases hx) (fun e=>by rw[e,a2.2.1]at hx;cases hx)];exact hx
 have hvw:∀x w,x≠K.top∨w≠0→((s.put ⟨K.top,0,nw⟩).setR t 4 od).vw t x w=s.vw t x w:=fun x w h=>by
  unfold A.vw;rw[hval x w h];rfl
 refine HInv.own (R':=R') C D ht hp _ f' (d':=d) rfl hd (fun _=>rfl) (fun u hu=>setR_ne _ _ _ hu) (fun _ _=>rfl) (setR_off _ _ _ _ (by omega)) (setR_off _ _ _ _ (by omega)) [] (by rw[List.append_nil];rfl) (fun e he=>by cases he) (fun x w h=>hval x w (.inl fun e=>K.tg (e ▸ h)))
  (fun x u hu=>?_) (fun u x w hu hx=>hval x w (.inl (hnt x (by rw[hx];simp)))) (fun u hu _=>hval _ _ (.inl (K.lt u))) ?_ (fun x hx=>?_) (fun x hx=>hsp x (D.sp x hx)) (fun w hw=>hval _ w (.inr hw)) (by rw[hv0];exact hRn) (fun x hx=>?_) ⟨?_,fun e he=>?_,l,?_,fun x hx=>?_,h3,?_⟩ (fun r hr2 hne2 h=>?_) (fun d2 e=>by cases e) (fun g=>by omega) (fun g=>by omega)
 ·by_cases e:x=od
  ·rw[e,hRo,t0]
   exact ⟨fun g=>(by cases g;exact absurd rfl hu),fun g=>(by cases g)⟩
  ·by_cases e2:x=nw
   ·rw[e2,hRn,a2.2.1]
    exact ⟨fun g=>(by cases g),fun g=>(by cases g;exact absurd rfl hu)⟩
   ·rw[hR1 x e e2]
 ·rw[hR1 0 (fun e=>by rw[←e,D.z]at t0;cases t0) (fun e=>a2.1 e.symm)];exact D.z
 ·refine D.hr x fun g=>?_
  by_cases e:x=od
  ·rw[e,t0]at g;cases g
  ·by_cases e2:x=nw
   ·rw[e2,a2.2.1]at g;cases g
   ·rw[hR1 x e e2]at hx;exact hx g
 ·by_cases e:x=od
  ·rw[e,hRo]at hx;cases hx
  ·by_cases e2:x=nw
   ·rw[e2,hval _ 0 (.inl (hnt nw (by rw[a2.2.1];simp)))]
    have:s.vw t nw 0=s.val nw 0:=vw_nil hb
    rw[←this];exact a3
   ·rw[hR1 x e e2]at hx
    rw[hval x 0 (.inl (hnt x (by rw[hx];simp)))];exact D.pb x hx
 ·rw[setR_off _ _ _ _ (by omega)];exact r5
 ·have he':e∈s.buf t:=he
  rw[hb]at he';cases he'
 ·rw[hvw _ _ (.inl (K.lt t))]
  exact h1.keep fun x hx=>hvw x _ (.inr K.n0)
 ·exact ⟨(h2 x hx).1,by rw[hll x hx];exact (h2 x hx).2⟩
 ·show Own R' t l (((s.put ⟨K.top,0,nw⟩).setR t 4 od).reg t 4)
  rw[setR_at]
  refine ⟨fun e=>?_,hRo,fun hx=>?_⟩
  ·rw[e,D.z]at t0;cases t0
  ·have:=(h2 od hx).2;rw[t0]at this;cases this
 ·obtain ⟨g1,g2⟩:=D.ho r hr2 h
  have hx:s.reg r 0≠K.top:=hnt _ (by rcases g1 with g|⟨w,g⟩ <;> rw[g] <;> simp)
  rw[hval _ 0 (.inl hx)]
  refine ⟨?_,g2⟩
  by_cases e:s.reg r 0=od
  ·right;exact ⟨t,by rw[e];exact hRo⟩
  ·by_cases e2:s.reg r 0=nw
   ·left;rw[e2];exact hRn
   ·rw[hR1 _ e e2];exact g1
end Qk
end
section
namespace Qg
open Qs
variable {X:Cx}{ptr:Int}{s s':A}{p p':Nat→Pos}{L L':List Nat}{B:Int}{t u:Nat}
variable {code:Nat→List Instr}{ann:Nat→List Pos}{N:Int}{m:M}
theorem ex_pc(s:A)(t:Nat)(x:Instr)(tg u:Nat)(hu:u≠t):(s.ex t x tg).pc u=s.pc u:=by
 unfold A.ex
 split
 all_goals first
  |rfl
  |exact if_neg hu
  |(split <;> first|rfl|exact if_neg hu)
  |(show A.pc (if _ then _ else _) u=_;split <;> rfl)
theorem ex_pct(s:A)(t:Nat)(x:Instr)(tg:Nat):(Jmp s t x→(s.ex t x tg).pc t=tg)∧(¬Jmp s t x→(s.ex t x tg).pc t=s.pc t):=by
 obtain ⟨op,a,b,c,to⟩:=x
 unfold Jmp
 simp only
 by_cases h14:op=14
 ·subst h14
  unfold A.ex
  simp only
  by_cases h:s.reg t a.toNat=0
  ·rw[if_pos h];exact ⟨fun _=>if_pos rfl,fun g=>absurd (by simp[h]) g⟩
  ·rw[if_neg h];exact ⟨fun g=>by simp[h]at g,fun _=>rfl⟩
 ·by_cases h15:op=15
  ·subst h15
   unfold A.ex
   simp only
   by_cases h:s.reg t a.toNat=s.reg t b.toNat
   ·rw[if_pos h];exact ⟨fun _=>if_pos rfl,fun g=>absurd (by simp[h]) g⟩
   ·rw[if_neg h];exact ⟨fun g=>by simp[h]at g,fun _=>rfl⟩
  ·by_cases h16:op=16
   ·subst h16
    exact ⟨fun _=>if_pos rfl,fun g=>absurd (.inr (.inr rfl)) g⟩
   ·refine ⟨fun g=>by omega,fun _=>?_⟩
    unfold A.ex
    split
    all_goals first
     |rfl
     |(rename_i h;simp only at h;omega)
     |(show A.pc (if _ then _ else _) t=_;split <;> rfl)
end Qg
end
section
namespace Qk
open Qs Qg
def Mono(f f':Fl):Prop:=(f'.r=false→f.r=false)∧f'.g≤f.g
def Ck.insC(K:Ck)(t:Nat):Nat→Nat × Int × Int × Int→Prop
 |0,x=>x=(6,0,5,0)
 |1,x=>x=(6,4,0,0)
 |2,x=>x=(19,4,0,0)
 |3,x=>x=(18,4,0,0)
 |10,x=>x=(10,4,0,0)
 |11,x=>x=(14,4,0,0)
 |12,x=>∃n,x=(0,0,n,0)∧K.V n
 |13,x=>x=(7,4,0,0)
 |14,x=>x=(8,4,5,0)
 |15,x=>x=(1,3,4,0)
 |16,x=>x=(17,0,0,0)
 |20,x=>x=(14,3,0,0)
 |21,x=>x=(11,3,0,0)
 |22,x=>x=(0,3,0,0)
 |23,x=>x=(17,0,0,0)
 |30,x=>x=(14,3,0,0)
 |31,x=>x=(6,2,5,((1+t/4:Nat):Int))
 |32,x=>x=(6,0,2,(K.lw t:Int))
 |33,x=>x=(7,3,0,(K.nx:Int))
 |34,x=>x=(7,2,3,(K.lw t:Int))
 |35,x=>x=(0,3,0,0)
 |36,x=>x=(17,0,0,0)
 |40,x=>x=(6,2,5,((1+t/4:Nat):Int))
 |41,x=>x=(17,0,0,0)
 |42,x=>x=(6,0,2,(K.lw t:Int))
 |43,x=>x=(14,0,0,0)
 |44,x=>x=(6,1,0,(K.nx:Int))
 |45,x=>x=(7,2,1,(K.lw t:Int))
 |46,x=>x=(11,0,0,0)
 |47,x=>x=(16,0,0,0)
 |48,x=>x=(17,0,0,0)
 |_,_=>False
def nextC(f0:Nat)(d:Nat)(f:Fl)(q:Pos)(f':Fl):Nat→Prop
 |0=>q=.cl 1 d∧0<d∧Mono f f'
 |1=>q=.cl 2 d∧Mono f f'
 |2=>q=.cl 3 d∧Mono f f'
 |10=>q=.cl 11 d∧f.r=false∧f'.g=0
 |11=>q=.cl 12 d∧f'.g=0
 |12=>q=.cl 13 d∧f'.g=0
 |13=>q=.cl 14 d∧f'.g=0
 |14=>q=.cl 15 d∧f'.g=0
 |15=>q=.cl 16 d∧f'.g=0∧f'.r=true
 |20=>q=.cl 21 d∧f'.g≤f.g
 |21=>q=.cl 22 d∧f'.g≤f.g∧1≤f.g
 |22=>q=.cl 23 d∧f'.g≤f.g
 |30=>q=.cl 31 d∧f'.g≤f.g
 |31=>q=.cl 32 d∧f'.g≤f.g
 |32=>q=.cl 33 d∧f'.g≤f.g
 |33=>q=.cl 34 d∧f'.g≤f.g
 |34=>q=.cl 35 d∧f'.g=0
 |35=>q=.cl 36 d∧f'.g≤f.g
 |40=>q=.cl 41 d∧Mono f f'∧2≤f'.g
 |41=>q=.cl 42 d∧Mono f f'∧2≤f'.g
 |42=>q=.cl 43 d∧Mono f f'∧2≤f'.g
 |43=>q=.cl 44 d∧Mono f f'∧2≤f'.g
 |44=>q=.cl 45 d∧Mono f f'∧2≤f'.g
 |45=>q=.cl 46 d∧Mono f f'∧2≤f'.g
 |46=>q=.cl 47 d∧Mono f f'∧2≤f'.g
 |_=>Beg2 f0 d q f f'
def jumpC(d:Nat)(f:Fl)(q:Pos)(f':Fl):Nat→Prop
 |11=>q=.cl 16 d∧f'.g=0
 |20=>q=.cl 23 d∧f'.g≤f.g
 |30=>q=.cl 36 d∧f'.g≤f.g
 |43=>q=.cl 48 d∧Mono f f'
 |47=>q=.cl 41 d∧Mono f f'∧2≤f'.g
 |_=>False
structure LineH(K:Ck)(t:Nat)(code:List Instr)(ann:Nat→Pos × Fl)(i:Nat)(x:Instr):Prop where
 ip:InsP x
 at_:x.op=20∨(ann i).1=.dead∨
  (insOf K.X.f (ann i).1=some (x.op,x.A,x.B,x.C)∧(14≤x.op→x.op≤16→∃j,labelAt x.to code 0=some j∧ann j=(tgtOf (ann i).1,(ann i).2))∧(x.op≠16→NextF K.X.f (ann i).1 (ann (i+1)).1 (ann i).2 (ann (i+1)).2))∨
  ∃c d,(ann i).1=.cl c d∧d<100∧K.insC t c (x.op,x.A,x.B,x.C)∧(x.op≠16→nextC K.X.f d (ann i).2 (ann (i+1)).1 (ann (i+1)).2 c)∧(14≤x.op→x.op≤16→∃j,labelAt x.to code 0=some j∧jumpC d (ann i).2 (ann j).1 (ann j).2 c)
variable {K:Ck}{code:Nat→List Instr}{ann:Nat→Nat→Pos × Fl}{N:Int}{m:M}{t u:Nat}
def posH(ann:Nat→Nat→Pos × Fl)(m:M)(t:Nat):Pos:=(ann t (m.thr t).pc).1
def flH(ann:Nat→Nat→Pos × Fl)(m:M)(t:Nat):Fl:=(ann t (m.thr t).pc).2
structure GoodH(K:Ck)(code:Nat→List Instr)(ann:Nat→Nat→Pos × Fl)(N:Int)(m:M):Prop where
 W:WM K.X.n code m
 ft:m.faults=0
 inv:HInv K (absM m) (posH ann m) (flH ann m) (1+2*N)
 mr:∀x∈m.marks,K.V x.2
 tm:∀v∈tms m,0≤v∧v≤N+1
 hok:HokL m.cells
theorem h_force_marks(m:M):∀k,(m.force k).marks=m.marks
 |0=>rfl
 |k+1=>by show ((m.force k).fence k).marks=_;exact h_force_marks m k
theorem h_drain_marks(m:M)(t:Nat):(m.drain t).1.marks=m.marks:=by
 unfold M.drain
 split <;> rfl
theorem h_exec_marks(m:M)(t:Nat)(x:Instr)(h:x.op≠18):(m.exec t x).marks=m.marks:=by
 unfold M.exec
 simp only
 split
 all_goals first
  |rfl
  |exact absurd (by assumption) h
  |exact h_force_marks m _
  |(split <;> first
    |rfl
    |(split <;> first|rfl|exact h_drain_marks m t)
    |(show M.marks (if _ then (m.drain t).1 else m)=_;split <;> first|rfl|exact h_drain_marks m t)
    |(show M.marks (if _ then _ else _)=_;split <;> rfl))
theorem GoodH.buf0(W:WM K.X.n code m):∀t,K.X.n≤t→(absM m).buf t=[]:=fun t ht=>by
 show (m.waitsOf t).map enOf=[]
 unfold M.waitsOf
 rw[List.getD,List.getElem?_eq_none (by rw[W.W];exact ht)]
 rfl
theorem GoodH.bufs(G:GoodH K code ann N m):∀u,∀e∈(absM m).buf u,(absM m).here e.a=true:=fun u e he=>by
 by_cases hu:u<K.X.n
 ·exact G.inv.bufs hu e he
 ·rw[GoodH.buf0 G.W u (by omega)]at he;simp at he
theorem GoodH.drain(G:GoodH K code ann N m)(h0:0≤N)(t:Nat)(ht:t<K.X.n):GoodH K code ann (N+1) (m.drain t).1:=by
 obtain ⟨h1,h2,h3,h4⟩:=abs_drain G.W ht (G.bufs t)
 refine ⟨h3,by rw[h2];exact G.ft,?_,by rw[h_drain_marks];exact G.mr,by rw[tms_drain];intro v hv;have:=G.tm v hv;omega,hok_drain _ _ G.hok⟩
 have hp:posH ann (m.drain t).1=posH ann m:=by funext u;unfold posH M.thr;rw[h4]
 have hf:flH ann (m.drain t).1=flH ann m:=by funext u;unfold flH M.thr;rw[h4]
 rw[h1,hp,hf]
 exact (G.inv.dr t (GoodH.buf0 G.W)).up (by omega)
theorem GoodH.up(G:GoodH K code ann N m):GoodH K code ann (N+1) m:=⟨G.W,G.ft,G.inv.up (by omega),G.mr,fun v hv=>by have:=G.tm v hv;omega,G.hok⟩
theorem ann_step{m':M}{q:Pos}{f:Fl}(h1:∀u,u≠t→(m'.thr u).pc=(m.thr u).pc)(h2:ann t (m'.thr t).pc=(q,f)):posH ann m'=upd (posH ann m) t q∧flH ann m'=updF (flH ann m) t f:=by
 refine ⟨funext fun u=>?_,funext fun u=>?_⟩
 ·by_cases e:u=t
  ·subst e;rw[upd_same];unfold posH;rw[h2]
  ·rw[upd_ne _ _ e];unfold posH;rw[h1 u e]
 ·by_cases e:u=t
  ·subst e;rw[updF_same];unfold flH;rw[h2]
  ·rw[updF_ne _ _ e];unfold flH;rw[h1 u e]
theorem HInv.req{s:A}{p:Nat→Pos}{fl:Nat→Fl}{B:Int}(I:HInv K s p fl B)(ht:t<K.X.n){x:Instr}(hx:insOf K.X.f (p t)=some (x.op,x.A,x.B,x.C)):s.Req t x:=by
 obtain ⟨L,R,C,D⟩:=I
 have T:=C.th t ht
 have hgr:∀y,K.X.gr y→s.here y=true:=fun y hy=>D.hr y (by rw[sp_gr D hy];simp)
 have h6:s.here (s.reg t 6)=true:=by rw[T.r6];exact hgr _ (gr_own ht)
 have h7:s.here (s.reg t 7)=true:=by rw[T.r7];exact hgr _ gr_hub
 obtain ⟨op,a,b,c,to⟩:=x
 simp only at hx
 unfold A.Req
 simp only
 rcases ins_what hx with ⟨rfl,h⟩|⟨rfl,rfl,rfl⟩|h|⟨h,_⟩
 ·rcases h with rfl|rfl
  ·exact h6
  ·exact h7
 ·exact h7
 ·rcases h with rfl|rfl|rfl|rfl|rfl|rfl <;> trivial
 ·rcases h with rfl|rfl|rfl|rfl|rfl|rfl
  ·trivial
  ·trivial
  ·trivial
  ·trivial
  ·trivial
  ·rcases ins_reads hx with rfl|rfl|⟨rfl,h⟩
   ·exact h6
   ·exact h7
   ·have Tb:=T.b
    show s.here (s.reg t 2)=true
    rcases h with ⟨g,j,hp⟩|⟨j,hp⟩
    ·rw[hp]at Tb
     obtain ⟨_,_,y,l,hy,hr,_⟩:=Tb
     rw[hr];exact hgr _ (gr_own hy)
    ·rw[hp]at Tb
     obtain ⟨_,_,y,l,hy,hr,_⟩:=Tb
     rw[hr];exact hgr _ (gr_own hy)
theorem GoodH.step(G:GoodH K code ann N m)(h0:0≤N)(hN:N<1000000)(ht:t<K.X.n)(O:∀r,r<K.X.n→K.X.own r≠0)(hl:∀i x,(code t)[i]?=some x→LineH K t (code t) (ann t) i x):GoodH K code ann (N+1) (m.step t).1:=by
 unfold M.step
 rw[G.W.code t ht]
 cases hx:(code t)[(m.thr t).pc]? with
 |none=>exact G.up
 |some x=>
  obtain ⟨hip,hat⟩:=hl _ x hx
  simp only
  split
  ·exact G.up
  ·rename_i h20
   have hat:=hat.resolve_left h20
   have hnd:(ann t (m.thr t).pc).1≠.dead:=fun e=>by
    obtain ⟨L,R,C,D⟩:=G.inv
    have Ta:=(C.th t ht).a
    have e2:posH ann m t=.dead:=e
    rw[e2]at Ta
    exact Ta.elim
   have hat:=hat.resolve_left hnd
   obtain ⟨p1,p2,p3⟩:=abs_setPc G.W ht ((m.thr t).pc+1)
   obtain ⟨m1,hm1⟩:∃m1,m1=m.setPc t ((m.thr t).pc+1):=⟨_,rfl⟩
   rw[←hm1]at p1 p2 p3 ⊢
   have hft1:m1.faults=0:=by rw[p2];exact G.ft
   have htm1:tms m1=tms m:=by rw[hm1];rfl
   have hok1:HokL m1.cells:=by rw[hm1];exact G.hok
   have hcl1:m1.cells=m.cells:=by rw[hm1];rfl
   have hmk1:m1.marks=m.marks:=by rw[hm1];rfl
   clear hm1
   have fx:=hip
   obtain ⟨P,hP⟩:∃P,P=posH ann m t:=⟨_,rfl⟩
   obtain ⟨q,hq⟩:∃q,q=(ann t ((m.thr t).pc+1)).1:=⟨_,rfl⟩
   obtain ⟨g,hg⟩:∃g,g=(ann t ((m.thr t).pc+1)).2:=⟨_,rfl⟩
   have hPd:(ann t (m.thr t).pc).1=P:=hP.symm
   have hFd:(ann t (m.thr t).pc).2=flH ann m t:=rfl
   rw[hPd,hFd,←hq,←hg]at hat
   have hbs:∀u,∀e∈(absM m1).buf u,(absM m1).here e.a=true:=by rw[p1];exact G.bufs
   have hI1:HInv K (absM m1) (posH ann m) (flH ann m) (1+2*N):=by rw[p1];exact G.inv.pc _ _
   have hb0:∀t,K.X.n≤t→(absM m1).buf t=[]:=by rw[p1];exact GoodH.buf0 G.W
   have hpc1:(absM m1).pc t=(m.thr t).pc+1:=by rw[p1];exact if_pos rfl
   have hpcu:∀u,u≠t→(absM m1).pc u=(m.thr u).pc:=fun u hu=>by rw[p1];exact if_neg hu
   have hkeep:=A.pre_keep (P:=fun s'=>HInv K s' (posH ann m) (flH ann m) (1+2*N)∧∀t,K.X.n≤t→s'.buf t=[]) (fun s' u ⟨a,b⟩=>⟨a.dr u b,fun v hv=>by
    rw[A.dr_buf]
    split
    ·rename_i e;rw[←e,b v hv];rfl
    ·exact b v hv⟩) (absM m1) K.X.n t x ⟨hI1,hb0⟩
   obtain ⟨s2,hs2⟩:∃s2,s2=(absM m1).pre K.X.n t x:=⟨_,rfl⟩
   rw[←hs2]at hkeep
   have hI2:=hkeep.1
   have hs2reg:s2.reg=(absM m1).reg:=by
    rw[hs2]
    exact A.pre_keep (P:=fun s'=>s'.reg=(absM m1).reg) (fun s' u h=>by rw[A.dr_reg];exact h) _ _ _ _ rfl
   have hs2here:s2.here=(absM m1).here:=by
    rw[hs2]
    exact A.pre_keep (P:=fun s'=>s'.here=(absM m1).here) (fun s' u h=>by rw[A.dr_here];exact h) _ _ _ _ rfl
   have hs2pc:s2.pc=(absM m1).pc:=by
    rw[hs2]
    exact A.pre_keep (P:=fun s'=>s'.pc=(absM m1).pc) (fun s' u h=>by rw[A.dr_pc];exact h) _ _ _ _ rfl
   have hfen:x.op=8∨x.op=9∨x.op=11∨x.op=12→s2.buf t=[]:=fun h=>by
    rw[hs2]
    unfold A.pre
    rcases h with h|h|h|h <;> (rw[h];simp only;rw[A.fn_buf,if_pos rfl])
   have hfo:x.op=13→∀u,u<K.X.n→s2.buf u=[]:=fun h u hu=>by
    rw[hs2]
    unfold A.pre
    rw[h]
    simp only
    rw[A.fo_buf,if_pos hu]
   have hreq:s2.Req t x→(absM m1).Req t x:=fun h=>by
    unfold A.Req at h ⊢
    rw[hs2reg,hs2here]at h
    exact h
   have fin:∀(tg:Nat) (q':Pos) (f':Fl),(14≤x.op→x.op≤16→labelAt x.to (code t) 0=some tg)→x.op≠10→x.op≠18→s2.Req t x→ann t ((s2.ex t x tg).pc t)=(q',f')→HInv K (s2.ex t x tg) (upd (posH ann m) t q') (updF (flH ann m) t f') (1+2*(N+1))→GoodH K code ann (N+1) (m1.exec t x):=fun tg q' f' htg h10 h18 hR hq' hI=>by
    obtain ⟨r1,r2,r3⟩:=abs_exec p3 ht fx (hreq hR) hbs htg
    rw[←hs2]at r1
    have hpc:∀u,((m1.exec t x).thr u).pc=(s2.ex t x tg).pc u:=fun u=>by
     have:(absM (m1.exec t x)).pc u=(s2.ex t x tg).pc u:=by rw[r1]
     exact this
    obtain ⟨hpos,hfl⟩:=ann_step (m:=m) (m':=m1.exec t x) (t:=t) (q:=q') (f:=f') (ann:=ann) (fun u hu=>by rw[hpc,ex_pc _ _ _ _ _ hu,hs2pc];exact hpcu u hu) (by rw[hpc];exact hq')
    refine ⟨r3,by rw[r2];exact hft1,by rw[r1,hpos,hfl];exact hI,by rw[h_exec_marks _ _ _ h18,hmk1];exact G.mr,fun v hv=>?_,hok_exec _ _ _ (fun v hv=>?_) hok1⟩
    ·rw[tms_exec _ _ _ h10,htm1]at hv
     have:=G.tm v hv;omega
    ·rw[htm1]at hv;exact (G.tm v hv).1
   have hpt:posH ann m t=P:=hP.symm
   have hnq:ann t ((m.thr t).pc+1)=(q,g):=by rw[hq,hg]
   have hNN:(1:Int)+2*N≤1+2*(N+1):=by omega
   have hnoj:∀tg,¬Jmp s2 t x→ann t ((s2.ex t x tg).pc t)=(q,g):=fun tg h=>by rw[(ex_pct s2 t x tg).2 h,hs2pc,hpc1];exact hnq
   have hjmp:∀tg,Jmp s2 t x→ann t ((s2.ex t x tg).pc t)=ann t tg:=fun tg h=>by rw[(ex_pct s2 t x tg).1 h]
   have hJop:Jmp s2 t x→14≤x.op∧x.op≤16:=fun h=>by
    unfold Jmp at h
    omega
   rcases hat with ⟨hins,hj,hn⟩|⟨c,d,hPc,hd,hins,hn,hj⟩
   ·have hins':insOf K.X.f (posH ann m t)=some (x.op,x.A,x.B,x.C):=by rw[hpt];exact hins
    have hR:s2.Req t x:=hI2.req ht hins'
    obtain ⟨tg,htg,htg2⟩:∃tg,(14≤x.op→x.op≤16→labelAt x.to (code t) 0=some tg)∧(14≤x.op→x.op≤16→ann t tg=(tgtOf P,flH ann m t)):=by
     by_cases h:14≤x.op∧x.op≤16
     ·obtain ⟨j,j1,j2⟩:=hj h.1 h.2
      exact ⟨j,fun _ _=>j1,fun _ _=>j2⟩
     ·exact ⟨0,fun a b=>absurd ⟨a,b⟩ h,fun a b=>absurd ⟨a,b⟩ h⟩
    have hops:=ins_what hins
    have h10:x.op≠10:=fun h=>by omega
    have h18:x.op≠18:=fun h=>by omega
    by_cases hJ:Jmp s2 t x
    ·refine fin tg (tgtOf P) (flH ann m t) htg h10 h18 hR (by rw[hjmp tg hJ];exact htg2 (hJop hJ).1 (hJop hJ).2) ?_
     exact (hI2.grace ht hins' (fun h=>hfen (by omega)) hfo O (by omega) (fun hJ=>⟨by rw[hpt],rfl⟩) (fun g=>absurd hJ g) tg).up (by omega)
    ·refine fin tg q g htg h10 h18 hR (hnoj tg hJ) ?_
     refine (hI2.grace ht hins' (fun h=>hfen (by omega)) hfo O (by omega) (fun g=>absurd g hJ) (fun _=>?_) tg).up (by omega)
     rw[hpt]
     exact hn fun h=>hJ (.inr (.inr h))
   rw[hPc]at hpt
   obtain ⟨op,xa,xb,xc,to⟩:=x
   have h3:nextC K.X.f d (flH ann m t) q g 3→c=3→op=18→xa=4→GoodH K code ann (N+1) (m1.exec t ⟨op,xa,xb,xc,to⟩):=fun hb hc h18 hxa=>by
    subst hc;subst h18;subst hxa
    have hs2e:s2=absM m1:=by rw[hs2];rfl
    obtain ⟨hV,hI3⟩:=hI2.c3 ht hpt hb
    have hnJ:¬Jmp s2 t ⟨18,4,xb,xc,to⟩:=fun h=>absurd (hJop h) (by simp)
    have hmr:((m1.thr t).reg 4)=s2.reg t 4:=by rw[hs2e];rfl
    have hpos:∀m2:M,(∀u,(m2.thr u).pc=(m1.thr u).pc)→posH ann m2=upd (posH ann m) t q∧flH ann m2=updF (flH ann m) t g:=fun m2 hm2=>
     ann_step (fun u hu=>by rw[hm2];exact hpcu u hu) (by rw[hm2];show ann t ((absM m1).pc t)=_;rw[hpc1];exact hnq)
    unfold M.exec
    simp only
    split
    ·obtain ⟨q1,q2⟩:=hpos {m1 with marks:=m1.marks++[((t:Int),(m1.thr t).reg 4)]} (fun _=>rfl)
     refine ⟨p3.cong rfl p3.W p3.words rfl p3.wts,hft1,?_,fun y hy=>?_,fun w hw=>?_,hok1⟩
     ·rw[q1,q2]
      show HInv K (absM m1) _ _ _
      rw[←hs2e];exact hI3.up hNN
     ·rcases List.mem_append.1 hy with hy|hy
      ·rw[hmk1]at hy;exact G.mr y hy
      ·rw[List.mem_singleton.1 hy]
       show K.V ((m1.thr t).reg 4)
       rw[hmr];exact hV
     ·have hw':w∈tms m1:=hw
      rw[htm1]at hw'
      have:=G.tm w hw';omega
    ·obtain ⟨q1,q2⟩:=hpos m1 (fun _=>rfl)
     refine ⟨p3,hft1,?_,fun y hy=>by rw[hmk1]at hy;exact G.mr y hy,fun w hw=>?_,hok1⟩
     ·rw[q1,q2,←hs2e];exact hI3.up hNN
     ·rw[htm1]at hw
      have:=G.tm w hw;omega
   have hA:nextC K.X.f d (flH ann m t) q g 10→c=10→op=10→xa=4→GoodH K code ann (N+1) (m1.exec t ⟨op,xa,xb,xc,to⟩):=fun hb hc h10 hxa=>by
    subst hc;subst h10;subst hxa
    obtain ⟨hqe,hr,hg0⟩:=hb
    have hs2e:s2=absM m1:=by rw[hs2];rfl
    cases ea:allocAt m1.cells 0 with
    |none=>
     have hex:m1.exec t ⟨10,4,xb,xc,to⟩=m1.setReg t 4 0:=by
      unfold M.exec
      simp only[ea]
     obtain ⟨r1,r2,r3⟩:=abs_setReg p3 ht (a:=4) (by decide) 0
     rw[hex]
     have hpc:∀u,((m1.setReg t 4 0).thr u).pc=(absM m1).pc u:=fun u=>by
      have:(absM (m1.setReg t 4 0)).pc u=(absM m1).pc u:=by rw[r1];rfl
      exact this
     obtain ⟨q1,q2⟩:=ann_step (m:=m) (m':=m1.setReg t 4 0) (t:=t) (q:=q) (f:=g) (ann:=ann) (fun u hu=>by rw[hpc];exact hpcu u hu) (by rw[hpc,hpc1];exact hnq)
     refine ⟨r3,by rw[r2];exact hft1,?_,fun y hy=>?_,fun w hw=>?_,hok1⟩
     ·rw[q1,q2,r1,hqe];exact (hI1.c10z ht hpt hd g hg0 hr).up hNN
     ·have hy':y∈m1.marks:=hy
      rw[hmk1]at hy';exact G.mr y hy'
     ·have hw':w∈tms m1:=hw
      rw[htm1]at hw'
      have:=G.tm w hw';omega
    |some k=>
     obtain ⟨k,gg⟩:=k
     obtain ⟨_,y,hy,hyh,hyt⟩:=allocAt_some _ _ ea
     obtain ⟨na,n1,n2,n3,n4,n5,n6,n7⟩:=abs_alloc p3 ht (xa:=4) (by decide) ⟨y,List.mem_of_getElem? hy,hyh⟩ (fun v hv=>by rw[htm1]at hv;exact G.tm v hv) (by omega) xb xc to
     have hpc:∀u,((m1.exec t ⟨10,4,xb,xc,to⟩).thr u).pc=(absM m1).pc u:=fun u=>by
      have:(absM (m1.exec t ⟨10,4,xb,xc,to⟩)).pc u=(absM m1).pc u:=by rw[n3];rfl
      exact this
     obtain ⟨q1,q2⟩:=ann_step (m:=m) (m':=m1.exec t ⟨10,4,xb,xc,to⟩) (t:=t) (q:=q) (f:=g) (ann:=ann) (fun u hu=>by rw[hpc];exact hpcu u hu) (by rw[hpc,hpc1];exact hnq)
     refine ⟨n5,by rw[n4];exact hft1,?_,by rw[h_exec_marks _ _ _ (by simp),hmk1];exact G.mr,fun v hv=>by have:=n6 v hv;omega,hok_exec _ _ _ (fun v hv=>?_) hok1⟩
     ·rw[q1,q2,n3,hqe]
      exact (hI1.c10 ht hpt hd g hg0 hr n2 (by omega)).up hNN
     ·rw[htm1]at hv;exact (G.tm v hv).1
   unfold Ck.insC at hins
   split at hins
   ·
    cases hins
    have hnJ:¬Jmp s2 t _:=fun h=>absurd (hJop h) (by simp)
    obtain ⟨hqe,hd0,hm⟩:=hn (by simp)
    obtain ⟨b1,b2,b3,b4,b5⟩:=hI2.top ht
    exact fin 0 (.cl 1 d) g (fun a b=>by simp at a b) (by simp) (by simp) (by show s2.here (s2.reg t 5)=true;rw[b1];exact b2) (by rw[hnoj 0 hnJ,hqe]) ((hI2.c0 ht hpt hd hd0 g hm.1 hm.2).up hNN)
   ·
    cases hins
    have hnJ:¬Jmp s2 t _:=fun h=>absurd (hJop h) (by simp)
    obtain ⟨hqe,hm⟩:=hn (by simp)
    exact fin 0 (.cl 2 d) g (fun a b=>by simp at a b) (by simp) (by simp) (hI2.c1 ht hpt hd g hm.1 hm.2).1 (by rw[hnoj 0 hnJ,hqe]) (((hI2.c1 ht hpt hd g hm.1 hm.2).2).up hNN)
   ·
    cases hins
    have hnJ:¬Jmp s2 t _:=fun h=>absurd (hJop h) (by simp)
    obtain ⟨hqe,hm⟩:=hn (by simp)
    exact fin 0 (.cl 3 d) g (fun a b=>by simp at a b) (by simp) (by simp) (hI2.c2 ht hpt hd g hm.1 hm.2).1 (by rw[hnoj 0 hnJ,hqe]) (((hI2.c2 ht hpt hd g hm.1 hm.2).2).up hNN)
   ·
    cases hins
    exact h3 (hn (by simp)) rfl rfl rfl
   ·
    cases hins
    exact hA (hn (by simp)) rfl rfl rfl
   ·
    cases hins
    obtain ⟨j,j1,j2,j3⟩:=hj (by simp) (by simp)
    by_cases hz:s2.reg t 4=0
    ·have hJ:Jmp s2 t ⟨14,4,0,0,to⟩:=.inl ⟨rfl,hz⟩
     refine fin j (ann t j).1 (ann t j).2 (fun _ _=>j1) (by simp) (by simp) trivial (by rw[hjmp j hJ]) ?_
     show HInv K (if s2.reg t 4=0 then s2.setP t j else s2) _ _ _
     rw[if_pos hz,j2]
     exact ((hI2.c11z ht hpt hd _ j3 hz).up hNN).pc _ _
    ·have hnJ:¬Jmp s2 t ⟨14,4,0,0,to⟩:=fun h=>by
      rcases h with h|h|h
      ·exact hz h.2
      ·exact absurd h.1 (by simp)
      ·exact absurd h (by simp)
     obtain ⟨hqe,hm⟩:=hn (by simp)
     refine fin j (.cl 12 d) g (fun _ _=>j1) (by simp) (by simp) trivial (by rw[hnoj j hnJ,hqe]) ?_
     show HInv K (if s2.reg t 4=0 then s2.setP t j else s2) _ _ _
     rw[if_neg hz]
     exact (hI2.c11 ht hpt hd g hm hz).up hNN
   ·
    obtain ⟨n,hins,hV⟩:=hins
    cases hins
    have hnJ:¬Jmp s2 t _:=fun h=>absurd (hJop h) (by simp)
    obtain ⟨hqe,hm⟩:=hn (by simp)
    exact fin 0 (.cl 13 d) g (fun a b=>by simp at a b) (by simp) (by simp) trivial (by rw[hnoj 0 hnJ,hqe]) ((hI2.c12 ht hpt hd g hm hV).up hNN)
   ·
    cases hins
    have hnJ:¬Jmp s2 t _:=fun h=>absurd (hJop h) (by simp)
    obtain ⟨hqe,hm⟩:=hn (by simp)
    exact fin 0 (.cl 14 d) g (fun a b=>by simp at a b) (by simp) (by simp) (hI2.c13 ht hpt hd g hm).1 (by rw[hnoj 0 hnJ,hqe]) (((hI2.c13 ht hpt hd g hm).2).up hNN)
   ·
    cases hins
    have hnJ:¬Jmp s2 t _:=fun h=>absurd (hJop h) (by simp)
    obtain ⟨hqe,hm⟩:=hn (by simp)
    obtain ⟨b1,b2,b3,b4,b5⟩:=hI2.top ht
    exact fin 0 (.cl 15 d) g (fun a b=>by simp at a b) (by simp) (by simp) (by show s2.here (s2.reg t 5)=true;rw[b1];exact b2) (by rw[hnoj 0 hnJ,hqe]) ((hI2.c14 ht hpt hd g hm (hfen (by simp))).up hNN)
   ·
    cases hins
    have hnJ:¬Jmp s2 t _:=fun h=>absurd (hJop h) (by simp)
    obtain ⟨hqe,hm,hm2⟩:=hn (by simp)
    exact fin 0 (.cl 16 d) g (fun a b=>by simp at a b) (by simp) (by simp) trivial (by rw[hnoj 0 hnJ,hqe]) ((hI2.c15 ht hpt hd g hm hm2).up hNN)
   ·
    cases hins
    have hnJ:¬Jmp s2 t _:=fun h=>absurd (hJop h) (by simp)
    exact fin 0 q g (fun a b=>by simp at a b) (by simp) (by simp) trivial (hnoj 0 hnJ) ((hI2.cend ht hpt rfl (hn (by simp))).up hNN)
   ·
    cases hins
    obtain ⟨j,j1,j2,j3⟩:=hj (by simp) (by simp)
    by_cases hz:s2.reg t 3=0
    ·have hJ:Jmp s2 t ⟨14,3,0,0,to⟩:=.inl ⟨rfl,hz⟩
     refine fin j (ann t j).1 (ann t j).2 (fun _ _=>j1) (by simp) (by simp) trivial (by rw[hjmp j hJ]) ?_
     show HInv K (if s2.reg t 3=0 then s2.setP t j else s2) _ _ _
     rw[if_pos hz,j2]
     exact ((hI2.cz ht hpt (.inl rfl) hd _ j3 hz (.inl rfl)).up hNN).pc _ _
    ·have hnJ:¬Jmp s2 t ⟨14,3,0,0,to⟩:=fun h=>by
      rcases h with h|h|h
      ·exact hz h.2
      ·exact absurd h.1 (by simp)
      ·exact absurd h (by simp)
     obtain ⟨hqe,hm⟩:=hn (by simp)
     refine fin j (.cl 21 d) g (fun _ _=>j1) (by simp) (by simp) trivial (by rw[hnoj j hnJ,hqe]) ?_
     show HInv K (if s2.reg t 3=0 then s2.setP t j else s2) _ _ _
     rw[if_neg hz]
     exact (hI2.cnz ht hpt hd g hm hz (.inl ⟨rfl,rfl⟩)).up hNN
   ·
    cases hins
    have hnJ:¬Jmp s2 t _:=fun h=>absurd (hJop h) (by simp)
    obtain ⟨hqe,hm,hm1⟩:=hn (by simp)
    exact fin 0 (.cl 22 d) g (fun a b=>by simp at a b) (by simp) (by simp) (hI2.c21 ht hpt hd g hm hm1 (hfen (by simp))).1 (by rw[hnoj 0 hnJ,hqe]) (((hI2.c21 ht hpt hd g hm hm1 (hfen (by simp))).2).up hNN)
   ·
    cases hins
    have hnJ:¬Jmp s2 t _:=fun h=>absurd (hJop h) (by simp)
    obtain ⟨hqe,hm⟩:=hn (by simp)
    exact fin 0 (.cl 23 d) g (fun a b=>by simp at a b) (by simp) (by simp) trivial (by rw[hnoj 0 hnJ,hqe]) ((hI2.c22 ht hpt hd g hm (.inl ⟨rfl,rfl⟩)).up hNN)
   ·
    cases hins
    have hnJ:¬Jmp s2 t _:=fun h=>absurd (hJop h) (by simp)
    exact fin 0 q g (fun a b=>by simp at a b) (by simp) (by simp) trivial (hnoj 0 hnJ) ((hI2.cend ht hpt rfl (hn (by simp))).up hNN)
   ·
    cases hins
    obtain ⟨j,j1,j2,j3⟩:=hj (by simp) (by simp)
    by_cases hz:s2.reg t 3=0
    ·have hJ:Jmp s2 t ⟨14,3,0,0,to⟩:=.inl ⟨rfl,hz⟩
     refine fin j (ann t j).1 (ann t j).2 (fun _ _=>j1) (by simp) (by simp) trivial (by rw[hjmp j hJ]) ?_
     show HInv K (if s2.reg t 3=0 then s2.setP t j else s2) _ _ _
     rw[if_pos hz,j2]
     exact ((hI2.cz ht hpt (.inr rfl) hd _ j3 hz (.inr rfl)).up hNN).pc _ _
    ·have hnJ:¬Jmp s2 t ⟨14,3,0,0,to⟩:=fun h=>by
      rcases h with h|h|h
      ·exact hz h.2
      ·exact absurd h.1 (by simp)
      ·exact absurd h (by simp)
     obtain ⟨hqe,hm⟩:=hn (by simp)
     refine fin j (.cl 31 d) g (fun _ _=>j1) (by simp) (by simp) trivial (by rw[hnoj j hnJ,hqe]) ?_
     show HInv K (if s2.reg t 3=0 then s2.setP t j else s2) _ _ _
     rw[if_neg hz]
     exact (hI2.cnz ht hpt hd g hm hz (.inr ⟨rfl,rfl⟩)).up hNN
   ·
    cases hins
    have hnJ:¬Jmp s2 t _:=fun h=>absurd (hJop h) (by simp)
    obtain ⟨hqe,hm⟩:=hn (by simp)
    obtain ⟨b1,b2,b3,b4,b5⟩:=hI2.top ht
    exact fin 0 (.cl 32 d) g (fun a b=>by simp at a b) (by simp) (by simp) (by show s2.here (s2.reg t 5)=true;rw[b1];exact b2) (by rw[hnoj 0 hnJ,hqe]) ((hI2.c31 ht hpt hd g hm).up hNN)
   ·
    cases hins
    have hnJ:¬Jmp s2 t _:=fun h=>absurd (hJop h) (by simp)
    obtain ⟨hqe,hm⟩:=hn (by simp)
    obtain ⟨b1,b2,b3,b4,b5⟩:=hI2.top ht
    exact fin 0 (.cl 33 d) g (fun a b=>by simp at a b) (by simp) (by simp) (by show s2.here (s2.reg t 2)=true;rw[(hI2.c32 ht hpt hd g hm).1];exact b5) (by rw[hnoj 0 hnJ,hqe]) (((hI2.c32 ht hpt hd g hm).2).up hNN)
   ·
    cases hins
    have hnJ:¬Jmp s2 t _:=fun h=>absurd (hJop h) (by simp)
    obtain ⟨hqe,hm⟩:=hn (by simp)
    exact fin 0 (.cl 34 d) g (fun a b=>by simp at a b) (by simp) (by simp) (hI2.c33 ht hpt hd g hm).1 (by rw[hnoj 0 hnJ,hqe]) (((hI2.c33 ht hpt hd g hm).2).up hNN)
   ·
    cases hins
    have hnJ:¬Jmp s2 t _:=fun h=>absurd (hJop h) (by simp)
    obtain ⟨hqe,hm⟩:=hn (by simp)
    obtain ⟨b1,b2,b3,b4,b5⟩:=hI2.top ht
    have b6:=hI2.r2 ht hpt (by decide)
    have hst:=hI2.c34 ht hpt hd g hm
    rw[←b6]at hst
    exact fin 0 (.cl 35 d) g (fun a b=>by simp at a b) (by simp) (by simp) (by show s2.here (s2.reg t 2)=true;rw[b6];exact b5) (by rw[hnoj 0 hnJ,hqe]) ((hst).up hNN)
   ·
    cases hins
    have hnJ:¬Jmp s2 t _:=fun h=>absurd (hJop h) (by simp)
    obtain ⟨hqe,hm⟩:=hn (by simp)
    exact fin 0 (.cl 36 d) g (fun a b=>by simp at a b) (by simp) (by simp) trivial (by rw[hnoj 0 hnJ,hqe]) ((hI2.c22 ht hpt hd g hm (.inr ⟨rfl,rfl⟩)).up hNN)
   ·
    cases hins
    have hnJ:¬Jmp s2 t _:=fun h=>absurd (hJop h) (by simp)
    exact fin 0 q g (fun a b=>by simp at a b) (by simp) (by simp) trivial (hnoj 0 hnJ) ((hI2.cend ht hpt rfl (hn (by simp))).up hNN)
   ·
    cases hins
    have hnJ:¬Jmp s2 t _:=fun h=>absurd (hJop h) (by simp)
    obtain ⟨hqe,hm,hm2⟩:=hn (by simp)
    obtain ⟨b1,b2,b3,b4,b5⟩:=hI2.top ht
    exact fin 0 (.cl 41 d) g (fun a b=>by simp at a b) (by simp) (by simp) (by show s2.here (s2.reg t 5)=true;rw[b1];exact b2) (by rw[hnoj 0 hnJ,hqe]) ((hI2.c40 ht hpt hd g hm.1 hm.2 hm2).up hNN)
   ·
    cases hins
    have hnJ:¬Jmp s2 t _:=fun h=>absurd (hJop h) (by simp)
    obtain ⟨hqe,hm,hm2⟩:=hn (by simp)
    exact fin 0 (.cl 42 d) g (fun a b=>by simp at a b) (by simp) (by simp) trivial (by rw[hnoj 0 hnJ,hqe]) ((hI2.c41 ht hpt hd g hm.1 hm.2 hm2 (.inl ⟨rfl,rfl⟩)).up hNN)
   ·
    cases hins
    have hnJ:¬Jmp s2 t _:=fun h=>absurd (hJop h) (by simp)
    obtain ⟨hqe,hm,hm2⟩:=hn (by simp)
    obtain ⟨b1,b2,b3,b4,b5⟩:=hI2.top ht
    exact fin 0 (.cl 43 d) g (fun a b=>by simp at a b) (by simp) (by simp) (by show s2.here (s2.reg t 2)=true;rw[hI2.r2 ht hpt (by decide)];exact b5) (by rw[hnoj 0 hnJ,hqe]) ((hI2.c42 ht hpt hd g hm.1 hm.2 hm2).up hNN)
   ·
    cases hins
    obtain ⟨j,j1,j2,j3⟩:=hj (by simp) (by simp)
    by_cases hz:s2.reg t 0=0
    ·have hJ:Jmp s2 t ⟨14,0,0,0,to⟩:=.inl ⟨rfl,hz⟩
     refine fin j (ann t j).1 (ann t j).2 (fun _ _=>j1) (by simp) (by simp) trivial (by rw[hjmp j hJ]) ?_
     show HInv K (if s2.reg t 0=0 then s2.setP t j else s2) _ _ _
     rw[if_pos hz,j2]
     exact ((hI2.c43z ht hpt hd _ j3.1 j3.2).up hNN).pc _ _
    ·have hnJ:¬Jmp s2 t ⟨14,0,0,0,to⟩:=fun h=>by
      rcases h with h|h|h
      ·exact hz h.2
      ·exact absurd h.1 (by simp)
      ·exact absurd h (by simp)
     obtain ⟨hqe,hm,hm2⟩:=hn (by simp)
     refine fin j (.cl 44 d) g (fun _ _=>j1) (by simp) (by simp) trivial (by rw[hnoj j hnJ,hqe]) ?_
     show HInv K (if s2.reg t 0=0 then s2.setP t j else s2) _ _ _
     rw[if_neg hz]
     exact (hI2.c43 ht hpt hd g hm.1 hm.2 hm2 hz).up hNN
   ·
    cases hins
    have hnJ:¬Jmp s2 t _:=fun h=>absurd (hJop h) (by simp)
    obtain ⟨hqe,hm,hm2⟩:=hn (by simp)
    exact fin 0 (.cl 45 d) g (fun a b=>by simp at a b) (by simp) (by simp) (hI2.c44 ht hpt hd g hm.1 hm.2 hm2).1 (by rw[hnoj 0 hnJ,hqe]) (((hI2.c44 ht hpt hd g hm.1 hm.2 hm2).2).up hNN)
   ·
    cases hins
    have hnJ:¬Jmp s2 t _:=fun h=>absurd (hJop h) (by simp)
    obtain ⟨hqe,hm,hm2⟩:=hn (by simp)
    obtain ⟨b1,b2,b3,b4,b5⟩:=hI2.top ht
    have b6:=hI2.r2 ht hpt (by decide)
    have hst:=hI2.c45 ht hpt hd g hm.1 hm.2 hm2
    rw[←b6]at hst
    exact fin 0 (.cl 46 d) g (fun a b=>by simp at a b) (by simp) (by simp) (by show s2.here (s2.reg t 2)=true;rw[b6];exact b5) (by rw[hnoj 0 hnJ,hqe]) ((hst).up hNN)
   ·
    cases hins
    have hnJ:¬Jmp s2 t _:=fun h=>absurd (hJop h) (by simp)
    obtain ⟨hqe,hm,hm2⟩:=hn (by simp)
    exact fin 0 (.cl 47 d) g (fun a b=>by simp at a b) (by simp) (by simp) (hI2.c46 ht hpt hd g hm.1 hm.2 hm2 (hfen (by simp))).1 (by rw[hnoj 0 hnJ,hqe]) (((hI2.c46 ht hpt hd g hm.1 hm.2 hm2 (hfen (by simp))).2).up hNN)
   ·
    cases hins
    obtain ⟨j,j1,j2,j3,j4⟩:=hj (by simp) (by simp)
    have hJ:Jmp s2 t ⟨16,0,0,0,to⟩:=.inr (.inr rfl)
    refine fin j (ann t j).1 (ann t j).2 (fun _ _=>j1) (by simp) (by simp) trivial (by rw[hjmp j hJ]) ?_
    show HInv K (s2.setP t j) _ _ _
    rw[j2]
    exact ((hI2.c41 ht hpt hd _ j3.1 j3.2 j4 (.inr ⟨rfl,rfl⟩)).up hNN).pc _ _
   ·
    cases hins
    have hnJ:¬Jmp s2 t _:=fun h=>absurd (hJop h) (by simp)
    exact fin 0 q g (fun a b=>by simp at a b) (by simp) (by simp) trivial (hnoj 0 hnJ) ((hI2.cend ht hpt rfl (hn (by simp))).up hNN)
   ·cases hins
theorem GoodH.turn(G:GoodH K code ann N m)(h0:0≤N)(hN:N<1000000)(hn:0<K.X.n)(O:∀r,r<K.X.n→K.X.own r≠0)(hl:∀t,t<K.X.n→∀i x,(code t)[i]?=some x→LineH K t (code t) (ann t) i x)(k:Int):GoodH K code ann (N+1) (m.turn k).1:=by
 have hT:=G.W.T
 have h1:=Int.emod_lt_of_pos k (show (0:Int)<2*(m.T.length:Int) by omega)
 have h2:=Int.emod_nonneg k (show (2*(m.T.length:Int))≠0 by omega)
 unfold M.turn
 simp only[]
 split
 ·rename_i hk
  rw[hT]at hk
  exact G.step h0 hN (by rw[hT];exact hk) O (hl _ (by rw[hT];exact hk))
 ·rename_i hk
  exact G.drain h0 _ (by omega)
theorem GoodH.run(hn:0<K.X.n)(O:∀r,r<K.X.n→K.X.own r≠0)(hl:∀t,t<K.X.n→∀i x,(code t)[i]?=some x→LineH K t (code t) (ann t) i x):∀(l:List Int) {N:Int} {m:M},GoodH K code ann N m→0≤N→N+l.length≤1000000→GoodH K code ann (N+l.length) (m.run l).1
 |[],N,m,G,_,_=>by
  show GoodH K code ann (N+((0:Nat):Int)) m
  rw[show N+((0:Nat):Int)=N by omega];exact G
 |k :: l,N,m,G,h0,h=>by
  simp only[List.length_cons]at h ⊢
  have:=GoodH.run hn O hl l (G.turn h0 (by omega) hn O hl k) (by omega) (by omega)
  rw[show N+((l.length+1:Nat):Int)=N+1+(l.length:Int) by omega]
  exact this
end Qk
end
