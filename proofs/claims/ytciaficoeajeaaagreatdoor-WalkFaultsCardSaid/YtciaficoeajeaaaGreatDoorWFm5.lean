/- Texts that belong together, joined. -/
import Derived.Test.YtciaficoeajeaaaGreatDoorWFAs
import Derived.LoopTactic
import Derived.Outline
import Derived.Test.YtciaficoeajeaaaGreatDoorProg
import Derived.WalkKit
import Derived.Lib.Hide
import Derived.Test.YtciaficoeajeaaaGreatDoorWFm2
import Derived.Test.YtciaficoeajeaaaGreatDoorWFm3
import Derived.Deep.QuietTactic
import Derived.BigQuiet
import Derived.BigRegion
import Derived.Test.YtciaficoeajeaaaGreatDoorWFm4
import Derived.Test.YtciaficoeajeaaaGreatDoorRows
import Derived.ProofKit
import Derived.OpenShut
import Derived.Deep.Slices
set_option linter.unusedVariables false
set_option linter.unusedSimpArgs false
set_option linter.unusedSectionVars false
set_option maxHeartbeats 2000000
namespace Go.Proofs.YtciaficoeajeaaaGreatDoor
section
open Go.RowKit Go.Extern.Stop Go.Stop Go.Extern Qh
def errG:Nat→Nat
 |0=>6
 |1=>0
 |2=>7
 |3=>3
 |4=>4
 |5=>8
 |6=>2
 |7=>9
 |8=>1
 |_=>0
structure ErrsM(W:World)(a:Nat→Addr):Prop where
 v1:W.cell? ⟨0,0,none⟩=some (.iface 241 (.pointer (some (a 1))))
 v2:W.cell? ⟨7,0,none⟩=some (.iface 241 (.pointer (some (a 2))))
 v3:W.cell? ⟨3,0,none⟩=some (.iface 241 (.pointer (some (a 3))))
 v4:W.cell? ⟨4,0,none⟩=some (.iface 241 (.pointer (some (a 4))))
 v5:W.cell? ⟨8,0,none⟩=some (.iface 241 (.pointer (some (a 5))))
 v6:W.cell? ⟨2,0,none⟩=some (.iface 241 (.pointer (some (a 6))))
 v8:W.cell? ⟨1,0,none⟩=some (.iface 241 (.pointer (some (a 8))))
 et:W.cell? ⟨5,0,none⟩=some (.iface 206 (.agg #[.pointer (some ⟨10,31,none⟩)]))
 obj:∀i,i=1∨i=4∨i=6→∃c t,W.heap[(a i).block]?=some (.cells c t (0,0))
 ne:a 1≠a 6∧a 4≠a 6
theorem ErrsM.keep{W W':World}{a:Nat→Addr}(h:ErrsM W a)(hM:Mod noF W W'):ErrsM W' a:=
 ⟨hM.cell h.v1 (fun e=>e),hM.cell h.v2 (fun e=>e),hM.cell h.v3 (fun e=>e),hM.cell h.v4 (fun e=>e),hM.cell h.v5 (fun e=>e),hM.cell h.v6 (fun e=>e),hM.cell h.v8 (fun e=>e),hM.cell h.et (fun e=>e),fun i hi=>by obtain ⟨c,t,e⟩:=h.obj i hi;exact ⟨c,t,hM.heap e (fun e=>e)⟩,h.ne⟩
def errV(a:Nat→Addr)(i:Nat):Value:=.iface 241 (.pointer (some (a i)))
theorem isM_at{W:World}{a:Nat→Addr}(h:ErrsM W a){i:Nat}(hi:i=1∨i=4∨i=6) :
  Calls Tryz.prog 58 #[errV a i,errV a 6] W fun e w'=>e=.returned (.bool (decide (i=6)))∧w'=W:=by
 by_cases e:i=6
 ·subst e;exact (is_same (a 6) W).mono fun _ _ h=>⟨by rw[h.1];simp,h.2⟩
 ·obtain ⟨c,t,e1⟩:=h.obj i hi;obtain ⟨c2,t2,e2⟩:=h.obj 6 (.inr (.inr rfl))
  have hne:a i≠a 6:=by
   rcases hi with rfl|rfl|rfl
   ·exact h.ne.1
   ·exact h.ne.2
   ·exact absurd rfl e
  exact (is_other (a i) (a 6) c c2 t t2 W hne e1 e2).mono fun _ _ h=>⟨by rw[h.1];simp[e],h.2⟩
end
section
open Go.RowKit Qh
structure Errs4(W:World)(a:Nat→Addr):Prop where
 v1:W.cell? ⟨0,0,none⟩=some (.iface 241 (.pointer (some (a 1))))
 v4:W.cell? ⟨4,0,none⟩=some (.iface 241 (.pointer (some (a 4))))
 v5:W.cell? ⟨8,0,none⟩=some (.iface 241 (.pointer (some (a 5))))
 v6:W.cell? ⟨2,0,none⟩=some (.iface 241 (.pointer (some (a 6))))
theorem Errs4.keep{W W':World}{a:Nat→Addr}(h:Errs4 W a)(hM:Mod noF W W'):Errs4 W' a:=⟨hM.cell h.v1 (fun e=>e),hM.cell h.v4 (fun e=>e),hM.cell h.v5 (fun e=>e),hM.cell h.v6 (fun e=>e)⟩
theorem ErrsM.four{W:World}{a:Nat→Addr}(h:ErrsM W a):Errs4 W a:=⟨h.v1,h.v4,h.v5,h.v6⟩
end
section
open Go.RowKit Qs Qh
theorem acellInfo:(Tryz.prog.info? 220).map (fun i=>(i.zero,i.size,i.bytes))=some (some (.agg #[.int .i64 0,.int .i64 0,.int .i64 0,.int .i64 0,.int .i64 0,.bool false]),6,48):=by kernel_rfl
abbrev AAt(w:World)(b g:Nat)(l:List Cell):Prop:=ArenaAt 196 220 w b g l
theorem make_arena(n:Nat)(hn:n≤64)(w:World):(Instr.makeSlice 194 (.int .i64 n) (.int .i64 n)).run Tryz.prog w=.ok (.slice (some ⟨w.heap.size,0,none⟩) n n) (w.alloc (.cells (flat acell 0 (List.replicate n freshCell)).toArray 220)):=by
 obtain ⟨i,hi,hz0,hz1,hz2⟩:=info_parts acellInfo;have:=run_makeSlice (P:=Tryz.prog) w 194 220 i _ Tryz.underlying194 hi hz0 .i64 .i64 n n (by omega) (by omega) (by rw[hz1];simp;omega) (by rw[hz2];omega) (by omega);rw[this,hz1]
 have e:(madeCells (Value.agg #[.int .i64 0,.int .i64 0,.int .i64 0,.int .i64 0,.int .i64 0,.bool false]).cells (n*6))=(flat acell 0 (List.replicate n freshCell)).toArray:=by
  rw[←fresh_flat n];simp[Value.cells]
 simp only[Int.toNat_natCast];rw[e]
theorem arenaNew_ok(n:Nat)(h1:1≤n)(hn:n≤64)(w:World) :
  Calls Tryz.prog 74 #[.int .i64 n] w fun e w'=>e=.returned (.tuple #[.pointer (some ⟨w.heap.size+1,0,none⟩),.nilIface])∧AAt w' (w.heap.size+1) w.heap.size (List.replicate n freshCell)∧Mod noF w w':=by
 have d0:decide ((n:Int)<1)=false:=by simp;omega
 have d1:decide ((64:Int)<(n:Int))=false:=by simp;omega
 have hmk:=make_arena n hn
 go_enter Tryz.func74,Tryz.ntmps74
 go_wp2;go_ret2;refine ⟨rfl,⟨⟨n,?_⟩,⟨[],?_⟩,by omega⟩,((Mod.refl _ _).alloc _).alloc _⟩
 ·have:=heap_alloc_new (w.alloc (.cells (flat acell 0 (List.replicate n freshCell)).toArray 220)) (.cells #[.slice (some ⟨w.heap.size,0,none⟩) n n] 196)
  simpa using this
 ·rw[List.append_nil];exact (Below.heap_alloc (w.alloc _) _ _ (lt_of_block (heap_alloc_new w _))).trans (heap_alloc_new w _)
theorem arenaNew_bad(n:Int)(h:n<1∨64<n)(w:World)(a:Nat→Addr)(E:Errs4 w a) :
  Calls Tryz.prog 74 #[.int .i64 n] w fun e w'=>e=.returned (.tuple #[.pointer none,errV a 1])∧Mod noF w w':=by
 have hv:=E.v1
 by_cases h1:n<1
 ·have d0:decide (n<1)=true:=by simpa using h1
  go_enter Tryz.func74,Tryz.ntmps74
  go_wp2
  go_quiet (fail)
  go_wp2;go_ret2;exact ⟨rfl,(Mod.refl _ _).drewN _⟩
 ·have d0:decide (n<1)=false:=by simpa using h1
  have d1:decide (64<n)=true:=by simp;omega
  go_enter Tryz.func74,Tryz.ntmps74
  go_wp2
  go_quiet (fail)
  go_wp2;go_ret2;exact ⟨rfl,(Mod.refl _ _).drewN _⟩
theorem arenaAlloc{w:World}{b g:Nat}{l:List Cell}{a:Nat→Addr}(R:AAt w b g l)(E:Errs4 w a)(hn:l.length≤64)(ht:∀(i:Nat) c,l[i]?=some c→0≤c.times∧c.times≤1000000000) :
  Calls Tryz.prog 85 #[.pointer (some ⟨b,0,none⟩)] w fun e w'=>
   (∃i c,allocAt l 0=some (i,c.times)∧l[i]?=some c∧e=.returned (.tuple #[.agg #[.int .i64 i,.int .i64 c.times],.nilIface])∧AAt w' b g (l.set i (givenCell c))∧Mod (fun x=>x=g) w w')∨
   (allocAt l 0=none∧e=.returned (.tuple #[.agg #[.int .i64 0,.int .i64 0],errV a 5])∧Mod noF w w'):=by
 obtain ⟨ka,h0⟩:=R.slice;obtain ⟨hb,hg⟩:=R.lt;have hfz:=R.free;have HR:=Lib.hid R;have HE:=Lib.hid E;have Ht:=Lib.hid ht;clear R E ht
 go_enter Tryz.func85,Tryz.ntmps85
 go_wp2
 go_loop [4,5,11] (fun _ _ i=>∃k:Nat,k≤l.length∧i=.int .i64 k∧∀(j:Nat) x,j<k→l[j]?=some x→x.here=true) (fun _ _ i=>l.length - (intOf i).toNat)
 case atStart=>exact ⟨0,by omega,rfl,fun j x hj=>absurd hj (by omega)⟩
 case round=>
  obtain ⟨k,hk,rfl,hall⟩:=hrel;have Hall:=Lib.hid hall;clear hall
  by_cases hlt:k<l.length
  ·have hd:decide ((k:Int)<(l.length:Int))=true:=by simp;omega
   obtain ⟨c,hc⟩:∃c,l[k]?=some c:=⟨_,List.getElem?_eq_getElem hlt⟩;have c0:w.cell? ⟨g,k*6,none⟩=some (.int .i64 (c.words.getD 0 0)):=(HR.out.cell hc (j:=0) (by omega)).trans rfl;have c1:w.cell? ⟨g,k*6+1,none⟩=some (.int .i64 (c.words.getD 1 0)):=(HR.out.cell hc (j:=1) (by omega)).trans rfl
   have c2:w.cell? ⟨g,k*6+2,none⟩=some (.int .i64 (c.words.getD 2 0)):=(HR.out.cell hc (j:=2) (by omega)).trans rfl;have c3:w.cell? ⟨g,k*6+3,none⟩=some (.int .i64 (c.words.getD 3 0)):=(HR.out.cell hc (j:=3) (by omega)).trans rfl
   have c4:w.cell? ⟨g,k*6+4,none⟩=some (.int .i64 c.times):=(HR.out.cell hc (j:=4) (by omega)).trans rfl;have c5:w.cell? ⟨g,k*6+5,none⟩=some (.bool c.here):=(HR.out.cell hc (j:=5) (by omega)).trans rfl;obtain ⟨t0,t1⟩:=Ht.out k c hc;have Hc:=Lib.hid hc;clear hc
   cases hh:c.here with
   |true=>
    rw[hh]at c5;have Hh:=Lib.hid hh;clear hh;go_wp2
    go_round
    case rel=>
     refine ⟨k+1,by omega,by go_num,fun j x hj hx=>?_⟩
     by_cases e:j=k
     ·subst e;rw[Hc.out]at hx;cases hx;exact Hh.out
     ·exact Hall.out j x (by omega) hx
    case measure=>simp[intOf];omega
   |false=>
    rw[hh]at c5;have Hh:=Lib.hid hh;clear hh;have f0:=hfz (k*6);have f1:=hfz (k*6+1);have f2:=hfz (k*6+2);have f3:=hfz (k*6+3);have f4:=hfz (k*6+4);have f5:=hfz (k*6+5);clear hfz;generalize c.words.getD 0 0=y0 at c0;generalize c.words.getD 1 0=y1 at c1;generalize c.words.getD 2 0=y2 at c2
    generalize c.words.getD 3 0=y3 at c3;go_wp2;refine bodyPost_ret (v:=.tuple #[.agg #[.int .i64 k,.int .i64 c.times],.nilIface]) (by simp[results,Tryz.results85,go_sem]) rfl (.inl ⟨k,c,?_,Hc.out,rfl,(HR.out.given Hc.out).keep0 ((Mod.refl _ _).alloc _),?_⟩)
    ·have:=allocAt_found l 0 k c Hc.out Hh.out Hall.out;rw[Nat.zero_add]at this;exact this
    ·exact (((((((Mod.refl (fun x=>x=g) w).setCell (fun _=>rfl) _).setCell (fun _=>rfl) _).setCell (fun _=>rfl) _).setCell (fun _=>rfl) _).setCell (fun _=>rfl) _).setCell (fun _=>rfl) _).alloc _
  ·have hd:decide ((k:Int)<(l.length:Int))=false:=by simp;omega
   have hv:=(HE.out.keep ((Mod.refl noF w).alloc (.cells #[.int .i64 0,.int .i64 0] 101))).v5;go_wp2
   go_region
   all_goals go_wp2
   refine bodyPost_ret (v:=.tuple #[.agg #[.int .i64 0,.int .i64 0],errV a 5]) (by simp[results,Tryz.results85,go_sem,errV]) rfl (.inr ⟨?_,rfl,((Mod.refl _ _).alloc _).drew⟩);refine allocAt_none _ _ fun j x hx=>Hall.out j x ?_ hx
   have:=(List.getElem?_eq_some_iff.1 hx).1;omega
end
section
open Go.RowKit Qs Qh
def errOf(a:Nat→Addr)(e:Int):Value:=if e=0 then .nilIface else errV a (e.toNat - 1)
theorem arenaWord_any(c g:Int)(w:World)(a:Nat→Addr)(E:ErrsM w a) :
  Calls Tryz.prog 94 #[.agg #[.int .i64 c,.int .i64 g]] w fun e w'=>e=.returned (.tuple #[.int .i64 (wordV c g).1,errOf a (wordV c g).2])∧Mod noF w w':=by
 have hv:=(E.keep ((Mod.refl noF w).alloc (.cells #[.int .i64 c,.int .i64 g] 101))).v1;clear E
 by_cases c0:c<0
 ·have d0:decide (c<0)=true:=by simpa using c0
  have e:wordV c g=(0,2):=by simp only[wordV];rw[if_neg (by omega)]
  rw[e]
  go_enter Tryz.func94,Tryz.ntmps94
  go_wp2
  go_quiet (fail)
  go_wp2;go_ret2;exact ⟨rfl,((Mod.refl _ _).alloc _).drewN _⟩
 have d0:decide (c<0)=false:=by simpa using c0
 by_cases c1:64≤c
 ·have d1:decide (64≤c)=true:=by simpa using c1
  have e:wordV c g=(0,2):=by simp only[wordV];rw[if_neg (by omega)]
  rw[e]
  go_enter Tryz.func94,Tryz.ntmps94
  go_wp2
  go_quiet (fail)
  go_wp2;go_ret2;exact ⟨rfl,((Mod.refl _ _).alloc _).drewN _⟩
 have d1:decide (64≤c)=false:=by simpa using c1
 by_cases g0:g<0
 ·have d2:decide (g<0)=true:=by simpa using g0
  have e:wordV c g=(0,2):=by simp only[wordV];rw[if_neg (by omega)]
  rw[e]
  go_enter Tryz.func94,Tryz.ntmps94
  go_wp2
  go_quiet (fail)
  go_wp2;go_ret2;exact ⟨rfl,((Mod.refl _ _).alloc _).drewN _⟩
 have d2:decide (g<0)=false:=by simpa using g0
 by_cases g1:67108863<g
 ·have d3:decide (67108863<g)=true:=by simpa using g1
  have e:wordV c g=(0,2):=by
   simp only[wordV]
   rw[if_neg (fun h=>by
    have h5:isWord (g*64+c+1)=true:=h.2.2.2.2;simp only[isWord,W32,Bool.and_eq_true,decide_eq_true_eq]at h5
    omega)]
  rw[e]
  go_enter Tryz.func94,Tryz.ntmps94
  go_wp2
  go_quiet (fail)
  go_wp2;go_ret2;exact ⟨rfl,((Mod.refl _ _).alloc _).drewN _⟩
 have d3:decide (67108863<g)=false:=by simpa using g1
 by_cases n1:4294967295<g*64+c+1
 ·have d4:decide (4294967295<g*64+c+1)=true:=by simpa using n1
  have e:wordV c g=(0,2):=by
   simp only[wordV]
   rw[if_neg (fun h=>by
    have h5:isWord (g*64+c+1)=true:=h.2.2.2.2;simp only[isWord,W32,Bool.and_eq_true,decide_eq_true_eq]at h5
    omega)]
  rw[e]
  go_enter Tryz.func94,Tryz.ntmps94
  go_wp2
  go_quiet (fail)
  go_wp2;go_ret2;exact ⟨rfl,((Mod.refl _ _).alloc _).drewN _⟩
 ·have d4:decide (4294967295<g*64+c+1)=false:=by simpa using n1
  have hw:isWord (g*64+c+1)=true:=by simp only[isWord,W32,Bool.and_eq_true,decide_eq_true_eq];omega
  have e:wordV c g=(g*64+c+1,0):=by
   simp only[wordV];rw[if_pos ⟨by omega,by omega,by omega,by omega,hw⟩]
  rw[e]
  go_enter Tryz.func94,Tryz.ntmps94
  go_wp2;go_ret2;exact ⟨rfl,(Mod.refl _ _).alloc _⟩
theorem arenaRef_any(n:Int)(w:World)(a:Nat→Addr)(E:ErrsM w a)(hlo : -9223372036854775808≤n)(hhi:n≤9223372036854775807) :
  Calls Tryz.prog 120 #[.int .i64 n] w fun e w'=>e=.returned (.tuple #[.agg #[.int .i64 (refV n).1,.int .i64 (refV n).2.1],errOf a (refV n).2.2])∧Mod noF w w':=by
 have E1:=E.keep ((Mod.refl noF w).alloc (.cells #[.int .i64 0,.int .i64 0] 101));have hv:=E1.v1;have hv4:=E1.v4;have hb:=World.block_lt_of_cell? _ _ hv;clear E E1
 by_cases h0:n=0
 ·subst h0
  go_enter Tryz.func120,Tryz.ntmps120
  go_wp2
  go_region
  all_goals go_wp2
  refine bodyPost_ret (v:=.tuple #[.agg #[.int .i64 0,.int .i64 0],errOf a 5]) (by simp[results,Tryz.results120,go_sem,errOf,errV]) rfl ⟨rfl,((Mod.refl _ _).alloc _).drew⟩
 ·have d0:(n==0)=false:=by simpa using h0
  cases hw:isWord n with
  |false=>
   have e:refV n=(0,0,2):=by simp[refV,refOf,h0,hw]
   rw[e];have Hw:=Lib.hid hw;clear hw
   go_enter Tryz.func120,Tryz.ntmps120
   go_wp2_with (go_at_call 78;refine (right_any _ _).mono ?_;rintro e w' ⟨rfl,rfl⟩;rw[Hw.out])
   go_region
   all_goals go_wp2
   refine bodyPost_ret (v:=.tuple #[.agg #[.int .i64 0,.int .i64 0],errOf a 2]) (by simp[results,Tryz.results120,go_sem,errOf,errV]) rfl ⟨rfl,((Mod.refl _ _).alloc _).drew⟩
  |true=>
   have e:refV n=((n - 1) % 64,(n - 1)/64,0):=by simp[refV,refOf,h0,hw]
   have hb:0≤n∧n<4294967296:=by simpa[isWord,W32]using hw
   obtain ⟨b0,b1⟩:=hb
   have b2:0≤n - 1:=by omega
   rw[e];have Hw:=Lib.hid hw;clear hw
   go_enter Tryz.func120,Tryz.ntmps120
   go_wp2_with (go_at_call 78;refine (right_any _ _).mono ?_;rintro e w' ⟨rfl,rfl⟩;rw[Hw.out])
   refine bodyPost_ret (v:=.tuple #[.agg #[.int .i64 ((n - 1) % 64),.int .i64 ((n - 1)/64)],.nilIface]) (by simp[results,Tryz.results120,go_sem]) rfl ⟨by simp[errOf],(Mod.refl _ _).alloc _⟩
end
section
open Go.RowKit Qs Qh
theorem intSize:(Tryz.prog.info? 3).map (·.size)=some 1:=by kernel_rfl
end
end Go.Proofs.YtciaficoeajeaaaGreatDoor
section
namespace Qh
open Go Go.RowKit Qs
variable {m:M}{t:Nat}{h:Thr}{a b c p:Nat}{A B C:Int}{to:List UInt8}
theorem names_setPc(m:M)(t p:Nat)(n:Int):(m.setPc t p).names n=m.names n:=rfl
theorem exec_const(hh:m.T[t]?=some h):(m.setPc t p).exec t ⟨0,a,B,C,to⟩=(m.setPc t p).setReg t a B:=rfl
theorem exec_move(hh:m.T[t]?=some h):(m.setPc t p).exec t ⟨1,a,b,C,to⟩=(m.setPc t p).setReg t a (h.regs.getD b 0):=by
 simp only[M.exec,thr_setPc hh,Thr.reg,Int.toNat_natCast]
theorem exec_add(hh:m.T[t]?=some h):(m.setPc t p).exec t ⟨2,a,b,c,to⟩=(m.setPc t p).setReg t a (sum2 2 (h.regs.getD b 0) (h.regs.getD c 0)):=by
 simp only[M.exec,thr_setPc hh,Thr.reg,Int.toNat_natCast]
theorem exec_sub(hh:m.T[t]?=some h):(m.setPc t p).exec t ⟨3,a,b,c,to⟩=(m.setPc t p).setReg t a (sum2 3 (h.regs.getD b 0) (h.regs.getD c 0)):=by
 simp only[M.exec,thr_setPc hh,Thr.reg,Int.toNat_natCast]
theorem exec_and(hh:m.T[t]?=some h):(m.setPc t p).exec t ⟨4,a,b,c,to⟩=(m.setPc t p).setReg t a (sum2 4 (h.regs.getD b 0) (h.regs.getD c 0)):=by
 simp only[M.exec,thr_setPc hh,Thr.reg,Int.toNat_natCast]
theorem exec_xor(hh:m.T[t]?=some h):(m.setPc t p).exec t ⟨5,a,b,c,to⟩=(m.setPc t p).setReg t a (sum2 5 (h.regs.getD b 0) (h.regs.getD c 0)):=by
 simp only[M.exec,thr_setPc hh,Thr.reg,Int.toNat_natCast]
theorem exec_load_ok(hh:m.T[t]?=some h){rc rg:Int}(hn:m.names (h.regs.getD b 0)=some (rc,rg)):(m.setPc t p).exec t ⟨6,a,b,C,to⟩=(m.setPc t p).setReg t a (Qs.look (m.waitsOf t) rc rg C (getWord m.cells rc.toNat C.toNat)):=by
 simp only[M.exec,thr_setPc hh,Thr.reg,Int.toNat_natCast,names_setPc,hn];rfl
theorem exec_load_none(hh:m.T[t]?=some h)(hn:m.names (h.regs.getD b 0)=none):(m.setPc t p).exec t ⟨6,a,b,C,to⟩=((m.setPc t p).fault).setReg t a 0:=by
 simp only[M.exec,thr_setPc hh,Thr.reg,Int.toNat_natCast,names_setPc,hn]
theorem exec_store_none(hh:m.T[t]?=some h)(hn:m.names (h.regs.getD a 0)=none):(m.setPc t p).exec t ⟨7,a,b,C,to⟩=(m.setPc t p).fault:=by
 simp only[M.exec,thr_setPc hh,Thr.reg,Int.toNat_natCast,names_setPc,hn]
theorem waitsOf_setPc(m:M)(t p u:Nat):(m.setPc t p).waitsOf u=m.waitsOf u:=rfl
theorem exec_store_ok(hh:m.T[t]?=some h){rc rg:Int}(hn:m.names (h.regs.getD a 0)=some (rc,rg)){l:List Wt}(hl:m.waits[t]?=some l)(h8:l.length<8) :
  (m.setPc t p).exec t ⟨7,a,b,C,to⟩=putM (m.setPc t p) t ⟨rc,rg,C,h.regs.getD b 0⟩:=by
 have hw:m.waitsOf t=l:=by simp[M.waitsOf,List.getD,hl]
 simp only[M.exec,thr_setPc hh,Thr.reg,Int.toNat_natCast,names_setPc,hn,waitsOf_setPc,hw];rw[if_neg (by omega)];rfl
theorem exec_store_full(hh:m.T[t]?=some h){rc rg:Int}(hn:m.names (h.regs.getD a 0)=some (rc,rg)){x:Wt}{r:List Wt}(hl:m.waits[t]?=some (x :: r))(h8:r.length=7)(hin:hereIn m.cells x.c x.g=true) :
  (m.setPc t p).exec t ⟨7,a,b,C,to⟩=putM {(m.setPc t p)with cells:=(drain1 m.cells x).1,waits:=m.waits.set t r} t ⟨rc,rg,C,h.regs.getD b 0⟩:=by
 have hw:m.waitsOf t=x :: r:=by simp[M.waitsOf,List.getD,hl]
 have hb:(drain1 m.cells x).2=false:=by rw[drain1_bad,hin];rfl
 simp only[M.exec,thr_setPc hh,Thr.reg,Int.toNat_natCast,names_setPc,hn,waitsOf_setPc,hw];rw[if_pos (by simp;omega)]
 have e:((m.setPc t p).drain t).1 = {(m.setPc t p)with cells:=(drain1 m.cells x).1,waits:=m.waits.set t r}:=by
  unfold M.drain;rw[waitsOf_setPc,hw];show M.mk _ _ _ _ ((m.setPc t p).faults+if (drain1 m.cells x).2=true then 1 else 0)=_;rw[hb];show M.mk _ _ _ _ ((m.setPc t p).faults+0)=_;rw[Int.add_zero];rfl
 rw[e];rfl
theorem exec_store_full_bad(hh:m.T[t]?=some h){rc rg:Int}(hn:m.names (h.regs.getD a 0)=some (rc,rg)){x:Wt}{r:List Wt}(hl:m.waits[t]?=some (x :: r))(h8:r.length=7)(hin:hereIn m.cells x.c x.g=false) :
  (m.setPc t p).exec t ⟨7,a,b,C,to⟩=putM ({(m.setPc t p)with cells:=(drain1 m.cells x).1,waits:=m.waits.set t r}:M).fault t ⟨rc,rg,C,h.regs.getD b 0⟩:=by
 have hw:m.waitsOf t=x :: r:=by simp[M.waitsOf,List.getD,hl]
 have hb:(drain1 m.cells x).2=true:=by rw[drain1_bad,hin];rfl
 simp only[M.exec,thr_setPc hh,Thr.reg,Int.toNat_natCast,names_setPc,hn,waitsOf_setPc,hw];rw[if_pos (by simp;omega)]
 have e:((m.setPc t p).drain t).1=({(m.setPc t p)with cells:=(drain1 m.cells x).1,waits:=m.waits.set t r}:M).fault:=by
  unfold M.drain;rw[waitsOf_setPc,hw];show M.mk _ _ _ _ ((m.setPc t p).faults+if (drain1 m.cells x).2=true then 1 else 0)=_;rw[hb];rfl
 rw[e];rfl
theorem exec_cas_ok(hh:m.T[t]?=some h){rc:Nat}{rg:Int}(hn:m.names (h.regs.getD a 0)=some ((rc:Int),rg)) :
  (m.setPc t p).exec t ⟨9,a,b,c,to⟩=casM ((m.setPc t p).fence t) t b rc c (h.regs.getD b 0) (h.regs.getD (b+1) 0):=by
 have e:((b:Int)+1).toNat=b+1:=by omega
 simp only[M.exec,thr_setPc hh,Thr.reg,Int.toNat_natCast,names_setPc,hn,e];rfl
theorem exec_cas_none(hh:m.T[t]?=some h)(hn:m.names (h.regs.getD a 0)=none):(m.setPc t p).exec t ⟨9,a,b,C,to⟩=((m.setPc t p).fault).setReg t b 0:=by
 simp only[M.exec,thr_setPc hh,Thr.reg,Int.toNat_natCast,names_setPc,hn]
theorem exec_fence:(m.setPc t p).exec t ⟨12,A,B,C,to⟩=(m.setPc t p).fence t:=rfl
theorem exec_zero_yes(hh:m.T[t]?=some h){i:Nat}(hi:labelAt to h.code 0=some i)(hz:h.regs.getD a 0=0):(m.setPc t p).exec t ⟨14,a,B,C,to⟩=(m.setPc t p).setPc t i:=by
 simp only[M.exec,thr_setPc hh,Thr.reg,Int.toNat_natCast,hz,if_true];exact jump_eq hh p hi
theorem exec_zero_no(hh:m.T[t]?=some h)(hz:¬h.regs.getD a 0=0):(m.setPc t p).exec t ⟨14,a,B,C,to⟩=m.setPc t p:=by
 simp only[M.exec,thr_setPc hh,Thr.reg,Int.toNat_natCast,if_neg hz]
theorem exec_same_yes(hh:m.T[t]?=some h){i:Nat}(hi:labelAt to h.code 0=some i)(hz:h.regs.getD a 0=h.regs.getD b 0):(m.setPc t p).exec t ⟨15,a,b,C,to⟩=(m.setPc t p).setPc t i:=by
 simp only[M.exec,thr_setPc hh,Thr.reg,Int.toNat_natCast,if_pos hz];exact jump_eq hh p hi
theorem exec_same_no(hh:m.T[t]?=some h)(hz:¬h.regs.getD a 0=h.regs.getD b 0):(m.setPc t p).exec t ⟨15,a,b,C,to⟩=m.setPc t p:=by
 simp only[M.exec,thr_setPc hh,Thr.reg,Int.toNat_natCast,if_neg hz]
theorem exec_goto(hh:m.T[t]?=some h){i:Nat}(hi:labelAt to h.code 0=some i):(m.setPc t p).exec t ⟨16,A,B,C,to⟩=(m.setPc t p).setPc t i:=jump_eq hh p hi
theorem exec_label:(m.setPc t p).exec t ⟨17,A,B,C,to⟩=m.setPc t p:=rfl
theorem exec_need(hh:m.T[t]?=some h):(m.setPc t p).exec t ⟨19,a,B,C,to⟩=needM m t p (h.regs.getD a 0):=by
 simp only[M.exec,thr_setPc hh,Thr.reg,Int.toNat_natCast];rfl
end Qh
end
section
namespace Qh
open Go Go.RowKit Qs Go.Proofs.YtciaficoeajeaaaGreatDoor
variable {τ : Ty}{w w':World}{L L':Lay}{m m':M}{N:Int}
def swapM(m:M)(t a rc c:Nat)(v:Int):M:=({m with cells:=Qs.setWord m.cells rc c v}:M).setReg t a (getWord m.cells rc c)
def freeM(m:M)(rc:Nat):M:={m with cells:=m.cells.modify rc fun y=>{y with here:=false}}
def givenM(m:M)(t a i:Nat)(n:Int):M:=({m with cells:=m.cells.set i (zeroCell (n+1))}:M).setReg t a (wordOf i n)
variable {t:Nat}{h:Thr}{a b c p:Nat}{A B C:Int}{to:List UInt8}
theorem exec_swap_ok(hh:m.T[t]?=some h){rc:Nat}{rg:Int}(hn:m.names (h.regs.getD b 0)=some ((rc:Int),rg)) :
  (m.setPc t p).exec t ⟨8,a,b,c,to⟩=swapM ((m.setPc t p).fence t) t a rc c (h.regs.getD a 0):=by
 simp only[M.exec,thr_setPc hh,Thr.reg,Int.toNat_natCast,names_setPc,hn];rfl
theorem exec_swap_none(hh:m.T[t]?=some h)(hn:m.names (h.regs.getD b 0)=none):(m.setPc t p).exec t ⟨8,a,b,C,to⟩=((m.setPc t p).fault).setReg t a 0:=by
 simp only[M.exec,thr_setPc hh,Thr.reg,Int.toNat_natCast,names_setPc,hn]
theorem exec_free_ok(hh:m.T[t]?=some h){rc:Nat}{rg:Int}(hn:m.names (h.regs.getD a 0)=some ((rc:Int),rg)) :
  (m.setPc t p).exec t ⟨11,a,B,C,to⟩=freeM ((m.setPc t p).fence t) rc:=by
 simp only[M.exec,thr_setPc hh,Thr.reg,Int.toNat_natCast,names_setPc,hn];rfl
theorem exec_free_none(hh:m.T[t]?=some h)(hn:m.names (h.regs.getD a 0)=none):(m.setPc t p).exec t ⟨11,a,B,C,to⟩=(m.setPc t p).fault:=by
 simp only[M.exec,thr_setPc hh,Thr.reg,Int.toNat_natCast,names_setPc,hn]
theorem exec_alloc_ok{i:Nat}{n:Int}(ha:allocAt m.cells 0=some (i,n)):(m.setPc t p).exec t ⟨10,a,B,C,to⟩=givenM (m.setPc t p) t a i n:=by
 have e:(m.setPc t p).cells=m.cells:=rfl;simp only[M.exec,e,ha];rfl
theorem exec_alloc_none(ha:allocAt m.cells 0=none):(m.setPc t p).exec t ⟨10,a,B,C,to⟩=(m.setPc t p).setReg t a 0:=by
 have e:(m.setPc t p).cells=m.cells:=rfl;simp only[M.exec,e,ha]
theorem exec_force:(m.setPc t p).exec t ⟨13,A,B,C,to⟩=(m.setPc t p).force m.T.length:=by
 have e:(m.setPc t p).T.length=m.T.length:=by simp[M.setPc]
 simp only[M.exec,e]
end Qh
end
namespace Go.Proofs.YtciaficoeajeaaaGreatDoor
section
open Go.RowKit Qs Qh
def fb{α : Type}(p : α→Bool):List α→Nat→Int
 |[],_=>-1
 |n :: r,i=>if p n then fb p r (i+1)else (i:Int)
theorem fb_at{α : Type}{p : α→Bool}{l:List α}{k:Nat}{n : α}:∀ {s:Nat},l[k]?=some n→(∀(j:Nat) m,j<k→l[j]?=some m→p m=true)→p n=false→fb p l s=((s+k:Nat):Int):=by
 induction l generalizing k with
 |nil=>intro s h;simp at h
 |cons x r ih=>
  intro s h hj hn
  cases k with
  |zero=>simp at h;subst h;simp[fb,hn]
  |succ k=>
   have hx:=hj 0 x (by omega) rfl;simp only[fb,hx,if_true];rw[ih (s:=s+1) (by simpa using h) (fun j m hjk hm=>hj (j+1) m (by omega) (by simpa using hm)) hn]
   congr 1;omega
theorem fb_none{α : Type}{p : α→Bool}{l:List α}:∀ {s:Nat},(∀(j:Nat) m,l[j]?=some m→p m=true)→fb p l s = -1:=by
 induction l with
 |nil=>intro s _;rfl
 |cons x r ih=>
  intro s h;have hx:=h 0 x rfl;simp only[fb,hx,if_true];exact ih fun j m hm=>h (j+1) m (by simpa using hm)
theorem fb_neg{α : Type}(p : α→Bool)(l:List α)(s:Nat):decide (0≤fb p l s) = !l.all p:=by
 induction l generalizing s with
 |nil=>rfl
 |cons x r ih=>
  simp only[fb,List.all_cons]
  by_cases h:p x=true
  ·simp only[h,if_true,ih,Bool.true_and]
  ·have h':p x=false:=by simpa using h
   simp[h']
theorem rightM(v:Int)(w:World):Calls Tryz.prog 77 #[.int .i64 v] w fun e w'=>e=.returned (.bool (!isWord v))∧w=w':=by
 go_enter Tryz.func77,Tryz.ntmps77
 go_wp2_with fail
 refine (right_any v w).mono ?_;rintro e w' ⟨rfl,rfl⟩;go_wp2;go_ret;exact ⟨rfl,rfl⟩
theorem indexM(w:World)(v:Value)(l:List Int)(R:IntsAt w v l) :
  Calls Tryz.prog 113 #[v,.func (.func 77) #[] #[]] w fun e w'=>e=.returned (.int .i64 (fb isWord l 0))∧w=w':=by
 obtain ⟨ad,c,rfl,hlm,hx⟩:=R.at_;unfold maxLen at hlm;have Hx:=Lib.hid hx;clear hx R
 go_enter Tryz.func113,Tryz.ntmps113
 go_wp2
 go_loop [5,8] (fun _ i=>∃k:Nat,k≤l.length∧i=.int .i64 k∧∀(j:Nat) m,j<k→l[j]?=some m→isWord m=true) (fun _ i=>l.length - (intOf i).toNat)
 case atStart=>exact ⟨0,Nat.zero_le _,rfl,fun j m hj=>absurd hj (by omega)⟩
 case round=>
  obtain ⟨k,hk,rfl,hall⟩:=hrel;have Hall:=Lib.hid hall;clear hall
  by_cases hlt:k<l.length
  ·have hd:decide ((k:Int)<(l.length:Int))=true:=by rw[decide_eq_true_eq];omega
   have hki:(k:Int)<(l.length:Int):=by omega
   obtain ⟨n,hn⟩:∃n,l[k]?=some n:=⟨_,List.getElem?_eq_getElem hlt⟩;obtain ⟨b,off,rfl,hb,hc⟩:=Hx.out k n hn;have Hn:=Lib.hid hn;clear hn
   cases hv:isWord n with
   |true=>
    have Hv:=Lib.hid hv;clear hv
    go_wp2_with fail
    refine (rightM n w).mono ?_;rintro e w' ⟨rfl,rfl⟩;rw[Hv.out];go_wp2
    go_round
    case rel=>
     refine ⟨k+1,by omega,by go_num,fun j m hj hm=>?_⟩
     by_cases e:j=k
     ·subst e;rw[Hn.out]at hm;cases hm;exact Hv.out
     ·exact Hall.out j m (by omega) hm
    case measure=>simp[intOf];omega
   |false=>
    have Hv:=Lib.hid hv;clear hv
    go_wp2_with fail
    refine (rightM n w).mono ?_;rintro e w' ⟨rfl,rfl⟩;rw[Hv.out];go_wp2;go_ret;refine ⟨?_,rfl⟩;rw[fb_at Hn.out Hall.out Hv.out];simp
  ·have hd:decide ((k:Int)<(l.length:Int))=false:=by rw[decide_eq_false_iff_not];omega
   go_wp2;go_ret;refine ⟨?_,rfl⟩;rw[fb_none fun j m hm=>Hall.out j m (by have:=(List.getElem?_eq_some_iff.1 hm).1;omega) hm];rfl
theorem containsM(w:World)(v:Value)(l:List Int)(R:IntsAt w v l) :
  Calls Tryz.prog 76 #[v,.func (.func 77) #[] #[]] w fun e w'=>e=.returned (.bool (!l.all isWord))∧w=w':=by
 have hcall:=indexM w v l R;have hfb:=fb_neg isWord l 0;have Hcall:=Lib.hid hcall;generalize fb isWord l 0=n at *;generalize (!l.all isWord)=bb at *;clear hcall R
 go_enter Tryz.func76,Tryz.ntmps76
 go_wp2_with fail
 refine Hcall.out.mono ?_;rintro e w' ⟨rfl,rfl⟩;go_wp2;go_ret;exact ⟨rfl,rfl⟩
def rightB(most:Nat)(l:List Int):Bool:=decide (l.length≤most)&&l.all isWord
theorem rightP(w:World)(v:Value)(l:List Int)(R:IntsAt w v l)(most:Nat)(hm:most≤1000) :
  Calls Tryz.prog 35 #[v,.int .i64 most] w fun e w'=>e=.returned (.bool (rightB most l))∧w=w':=by
 have hcall:=containsM w v l R;obtain ⟨ad,c,rfl,hlm,-⟩:=R.at_;have Hcall:=Lib.hid hcall;unfold rightB;clear hcall R
 by_cases h:l.length≤most
 ·have hd:decide ((l.length:Int)≤(most:Int))=true:=by simp;omega
  have hd2:decide (l.length≤most)=true:=by simpa using h
  rw[hd2]
  cases hb:l.all isWord with
  |true=>
   rw[hb]at Hcall;clear hb
   go_enter Tryz.func35,Tryz.ntmps35
   go_wp2_with fail
   refine Hcall.out.mono ?_;rintro e w' ⟨rfl,rfl⟩;go_wp2;go_ret;exact ⟨rfl,rfl⟩
  |false=>
   rw[hb]at Hcall;clear hb
   go_enter Tryz.func35,Tryz.ntmps35
   go_wp2_with fail
   refine Hcall.out.mono ?_;rintro e w' ⟨rfl,rfl⟩;go_wp2;go_ret;exact ⟨rfl,rfl⟩
 ·have hd:decide ((l.length:Int)≤(most:Int))=false:=by simp;omega
  have hd2:decide (l.length≤most)=false:=by simpa using h
  rw[hd2]
  go_enter Tryz.func35,Tryz.ntmps35
  go_wp2;go_ret;exact ⟨rfl,rfl⟩
end
section
open Go.RowKit Qs Qh
theorem rows_lim{w:World}{v:Value}{ll:List (List Int)}(R:RowsAt0 w v ll):∃a c,v=.slice a ll.length c:=by
 obtain ⟨a,c,e,-⟩:=R;exact ⟨a,c,e⟩
theorem newF1(w:World)(v:Value)(l:List Int)(R:IntsAt w v l):Calls Tryz.prog 34 #[v] w fun e w'=>e=.returned (.bool (!rightB 4 l))∧w=w':=by
 have hcall:=rightP w v l R 4 (by decide);obtain ⟨ad,c,rfl,hlm,-⟩:=R.at_;have Hcall:=Lib.hid hcall;generalize rightB 4 l=bb at *;clear hcall R
 go_enter Tryz.func34,Tryz.ntmps34
 go_wp2_with fail
 refine Hcall.out.mono ?_;rintro e w' ⟨rfl,rfl⟩;go_wp2;go_ret;exact ⟨rfl,rfl⟩
theorem indexR1(w:World)(v:Value)(ll:List (List Int))(R:RowsAt0 w v ll)(hl:ll.length≤1000000) :
  Calls Tryz.prog 75 #[v,.func (.func 34) #[] #[]] w fun e w'=>e=.returned (.int .i64 (fb (rightB 4) ll 0))∧w=w':=by
 obtain ⟨ad,c,rfl,hx⟩:=R;have Hx:=Lib.hid hx;clear hx
 go_enter Tryz.func75,Tryz.ntmps75
 go_wp2
 go_loop [5,8] (fun _ i=>∃k:Nat,k≤ll.length∧i=.int .i64 k∧∀(j:Nat) m,j<k→ll[j]?=some m→rightB 4 m=true) (fun _ i=>ll.length - (intOf i).toNat)
 case atStart=>exact ⟨0,Nat.zero_le _,rfl,fun j m hj=>absurd hj (by omega)⟩
 case round=>
  obtain ⟨k,hk,rfl,hall⟩:=hrel;have Hall:=Lib.hid hall;clear hall
  by_cases hlt:k<ll.length
  ·have hd:decide ((k:Int)<(ll.length:Int))=true:=by rw[decide_eq_true_eq];omega
   have hki:(k:Int)<(ll.length:Int):=by omega
   obtain ⟨n,hn⟩:∃n,ll[k]?=some n:=⟨_,List.getElem?_eq_getElem hlt⟩;obtain ⟨b,off,u,rfl,hb,hc,hI,-⟩:=Hx.out k n hn;have hcall:=newF1 w u n hI;obtain ⟨ua,uc,rfl,hlm,-⟩:=hI.at_;have Hcall:=Lib.hid hcall;have Hn:=Lib.hid hn;clear hn hI hcall
   cases hv:rightB 4 n with
   |true=>
    rw[hv]at Hcall;have Hv:=Lib.hid hv;clear hv
    go_wp2_with fail
    refine Hcall.out.mono ?_;rintro e w' ⟨rfl,rfl⟩;go_wp2
    go_round
    case rel=>
     refine ⟨k+1,by omega,by go_num,fun j m hj hm=>?_⟩
     by_cases e:j=k
     ·subst e;rw[Hn.out]at hm;cases hm;exact Hv.out
     ·exact Hall.out j m (by omega) hm
    case measure=>simp[intOf];omega
   |false=>
    rw[hv]at Hcall;have Hv:=Lib.hid hv;clear hv
    go_wp2_with fail
    refine Hcall.out.mono ?_;rintro e w' ⟨rfl,rfl⟩;go_wp2;go_ret;refine ⟨?_,rfl⟩;rw[fb_at Hn.out Hall.out Hv.out];simp
  ·have hd:decide ((k:Int)<(ll.length:Int))=false:=by rw[decide_eq_false_iff_not];omega
   go_wp2;go_ret;refine ⟨?_,rfl⟩;rw[fb_none fun j m hm=>Hall.out j m (by have:=(List.getElem?_eq_some_iff.1 hm).1;omega) hm];rfl
theorem containsR1(w:World)(v:Value)(ll:List (List Int))(R:RowsAt0 w v ll)(hl:ll.length≤1000000) :
  Calls Tryz.prog 33 #[v,.func (.func 34) #[] #[]] w fun e w'=>e=.returned (.bool (!ll.all (rightB 4)))∧w=w':=by
 have hcall:=indexR1 w v ll R hl;have hfb:=fb_neg (rightB 4) ll 0;obtain ⟨ad,c,rfl⟩:=rows_lim R;have Hcall:=Lib.hid hcall;generalize fb (rightB 4) ll 0=n at *;generalize (!ll.all (rightB 4))=bb at *;clear hcall R
 go_enter Tryz.func33,Tryz.ntmps33
 go_wp2_with fail
 refine Hcall.out.mono ?_;rintro e w' ⟨rfl,rfl⟩;go_wp2;go_ret;exact ⟨rfl,rfl⟩
theorem newF2(w:World)(v:Value)(l:List Int)(R:IntsAt w v l):Calls Tryz.prog 36 #[v] w fun e w'=>e=.returned (.bool (!rightB 8 l))∧w=w':=by
 have hcall:=rightP w v l R 8 (by decide);obtain ⟨ad,c,rfl,hlm,-⟩:=R.at_;have Hcall:=Lib.hid hcall;generalize rightB 8 l=bb at *;clear hcall R
 go_enter Tryz.func36,Tryz.ntmps36
 go_wp2_with fail
 refine Hcall.out.mono ?_;rintro e w' ⟨rfl,rfl⟩;go_wp2;go_ret;exact ⟨rfl,rfl⟩
theorem indexR2(w:World)(v:Value)(ll:List (List Int))(R:RowsAt0 w v ll)(hl:ll.length≤1000000) :
  Calls Tryz.prog 75 #[v,.func (.func 36) #[] #[]] w fun e w'=>e=.returned (.int .i64 (fb (rightB 8) ll 0))∧w=w':=by
 obtain ⟨ad,c,rfl,hx⟩:=R;have Hx:=Lib.hid hx;clear hx
 go_enter Tryz.func75,Tryz.ntmps75
 go_wp2
 go_loop [5,8] (fun _ i=>∃k:Nat,k≤ll.length∧i=.int .i64 k∧∀(j:Nat) m,j<k→ll[j]?=some m→rightB 8 m=true) (fun _ i=>ll.length - (intOf i).toNat)
 case atStart=>exact ⟨0,Nat.zero_le _,rfl,fun j m hj=>absurd hj (by omega)⟩
 case round=>
  obtain ⟨k,hk,rfl,hall⟩:=hrel;have Hall:=Lib.hid hall;clear hall
  by_cases hlt:k<ll.length
  ·have hd:decide ((k:Int)<(ll.length:Int))=true:=by rw[decide_eq_true_eq];omega
   have hki:(k:Int)<(ll.length:Int):=by omega
   obtain ⟨n,hn⟩:∃n,ll[k]?=some n:=⟨_,List.getElem?_eq_getElem hlt⟩;obtain ⟨b,off,u,rfl,hb,hc,hI,-⟩:=Hx.out k n hn;have hcall:=newF2 w u n hI;obtain ⟨ua,uc,rfl,hlm,-⟩:=hI.at_;have Hcall:=Lib.hid hcall;have Hn:=Lib.hid hn;clear hn hI hcall
   cases hv:rightB 8 n with
   |true=>
    rw[hv]at Hcall;have Hv:=Lib.hid hv;clear hv
    go_wp2_with fail
    refine Hcall.out.mono ?_;rintro e w' ⟨rfl,rfl⟩;go_wp2
    go_round
    case rel=>
     refine ⟨k+1,by omega,by go_num,fun j m hj hm=>?_⟩
     by_cases e:j=k
     ·subst e;rw[Hn.out]at hm;cases hm;exact Hv.out
     ·exact Hall.out j m (by omega) hm
    case measure=>simp[intOf];omega
   |false=>
    rw[hv]at Hcall;have Hv:=Lib.hid hv;clear hv
    go_wp2_with fail
    refine Hcall.out.mono ?_;rintro e w' ⟨rfl,rfl⟩;go_wp2;go_ret;refine ⟨?_,rfl⟩;rw[fb_at Hn.out Hall.out Hv.out];simp
  ·have hd:decide ((k:Int)<(ll.length:Int))=false:=by rw[decide_eq_false_iff_not];omega
   go_wp2;go_ret;refine ⟨?_,rfl⟩;rw[fb_none fun j m hm=>Hall.out j m (by have:=(List.getElem?_eq_some_iff.1 hm).1;omega) hm];rfl
theorem containsR2(w:World)(v:Value)(ll:List (List Int))(R:RowsAt0 w v ll)(hl:ll.length≤1000000) :
  Calls Tryz.prog 33 #[v,.func (.func 36) #[] #[]] w fun e w'=>e=.returned (.bool (!ll.all (rightB 8)))∧w=w':=by
 have hcall:=indexR2 w v ll R hl;have hfb:=fb_neg (rightB 8) ll 0;obtain ⟨ad,c,rfl⟩:=rows_lim R;have Hcall:=Lib.hid hcall;generalize fb (rightB 8) ll 0=n at *;generalize (!ll.all (rightB 8))=bb at *;clear hcall R
 go_enter Tryz.func33,Tryz.ntmps33
 go_wp2_with fail
 refine Hcall.out.mono ?_;rintro e w' ⟨rfl,rfl⟩;go_wp2;go_ret;exact ⟨rfl,rfl⟩
end
section
open Go.ChangeShapes Go.WideShapes Go.ChangeAt Go.RowKit Qh
def RowsAt{α : Type}(vals : α→List Value)(k:Nat)(w:World)(v:Value)(l:List α):Prop:=
 ∃a c,v=.slice a l.length c∧l.length≤c∧c≤maxLen∧(a=none→c=0)∧∀i x,l[i]?=some x→∃b off,a=some ⟨b,off,none⟩∧b<w.heap.size∧∀j y,(vals x)[j]?=some y→w.cell? ⟨b,off+i*k+j,none⟩=some y
theorem rowsAt_of{H:Type}{enc:TypeId × Value→H}{P:Program}{W:World}{T I:TypeId}{a:Option Addr}{len cap:Nat}{d:DataW H}{p:List MemPlace}{α : Type}{vals : α→List Value}{k:Nat}{good : α→Prop}(hk:0<k)(hT:P.underlying T=some (.slice I))(hC:P.cellsOf I=k)
  (hread:∀n cs y,DataW.trod enc P W 0 (fun _=>true) true n I cs=some y→∃x,cs=vals x∧good x)
  (h:DataW.Trod enc P W 0 (fun _=>true) true T (.slice a len cap) d p):∃l:List α,RowsAt vals k W (.slice a len cap) l∧∀x∈l,good x:=by
 obtain ⟨fuel,hf⟩:=h
 rcases Go.Deep.open_slice hT hf with ⟨hcs,_⟩|⟨A,l,c,m,n,D,Pl,hcs,_,hl,hm,hmm,_,hel⟩
 ·simp[Value.cells]at hcs;obtain ⟨rfl,rfl,rfl⟩:=hcs;exact ⟨[],⟨none,0,rfl,by simp,by simp,fun _=>rfl,fun i x h=>by simp at h⟩,fun x h=>by simp at h⟩
 ·simp[Value.cells]at hcs;obtain ⟨rfl,rfl,rfl⟩:=hcs
  have hx:∀i,i<len→∃x,good x∧(vals x).length=k∧∀j,j<k→W.cell? (A.add (i*k+j))=(vals x)[j]?:=fun i hi=>by
   obtain ⟨cs',hc,ht⟩:=hel i (by rw[hmm];simp;omega);obtain ⟨x,rfl,hg⟩:=hread _ _ _ ht;obtain ⟨_,hlen,hat⟩:=World.cells?_some hc;rw[hC]at hat hlen;exact ⟨x,hg,hlen,fun j hj=>by rw[←hat j hj,Go.Deep.add_add]⟩
  refine ⟨List.ofFn fun (i:Fin len)=>Classical.choose (hx i.1 i.2),⟨some A,cap,by simp,by simpa using hl,hm,fun e=>by simp at e,fun i x hi=>?_⟩,fun x hx'=>?_⟩
  ·obtain ⟨h1,h2⟩:=List.getElem?_eq_some_iff.1 hi
   have hi':i<len:=by simpa using h1
   simp only[List.getElem_ofFn]at h2;obtain ⟨_,hlen,hat⟩:=Classical.choose_spec (hx i hi');rw[h2]at hlen hat;obtain ⟨_,hlen0,hat0⟩:=Classical.choose_spec (hx 0 (by omega));have h00:=hat0 0 hk;rw[List.getElem?_eq_getElem (by omega)]at h00;obtain ⟨b,off,spot⟩:=A
   have hspot:spot=none:=by simpa[Addr.add]using World.cell?_spot h00
   subst hspot;refine ⟨b,off,rfl,by simpa[Addr.add]using World.block_lt_of_cell? _ _ h00,fun j y hj=>?_⟩
   have hjk:j<k:=by rw[←hlen];exact (List.getElem?_eq_some_iff.1 hj).1
   have:=hat j hjk;rw[Go.WideShapes.add_plain]at this;rw[Nat.add_assoc,this,hj]
  ·obtain ⟨i,rfl⟩:=(List.mem_ofFn).1 hx';exact (Classical.choose_spec (hx i.1 i.2)).1
end
section
open Go.ChangeShapes Go.WideShapes Go.ChangeAt Go.RowKit Qh
def IsRow(k:IntKind)(w:World)(a:Option Addr)(len cap:Nat)(zs:List Int):Prop:=
 (a=none∧len=0∧cap=0∧zs=[])∨
 ∃x,a=some x∧len≤cap∧cap≤maxLen∧zs.length=cap∧(∀i,i<zs.length→w.cell? (x.add i)=some (.int k (zs.getD i 0)))∧∀n∈zs,(Lit.int k n).wf=true
theorem isRow_of{H:Type}{enc:TypeId × Value→H}{P:Program}{W:World}{T I:TypeId}{a:Option Addr}{len cap:Nat}{d:DataW H}{p:List MemPlace}(hT:P.underlying T=some (.slice I))(hI:P.underlying I=some (.int .i64))(hc:P.cellsOf I=1)
  (h:DataW.Trod enc P W 0 (fun _=>true) true T (.slice a len cap) d p):∃zs,IsRow .i64 W a len cap zs:=by
 obtain ⟨fuel,hf⟩:=h
 rcases open_ints hT hI hc hf with ⟨hcs,_⟩|⟨x,l,c,zs,hcs,_,hl,hm,hz,_,hcell,hwz⟩
 ·simp[Value.cells]at hcs;obtain ⟨rfl,rfl,rfl⟩:=hcs;exact ⟨[],.inl ⟨rfl,rfl,rfl,rfl⟩⟩
 ·simp[Value.cells]at hcs;obtain ⟨rfl,rfl,rfl⟩:=hcs;exact ⟨zs,.inr ⟨_,rfl,hl,hm,by simpa using hz,hcell,hwz⟩⟩
theorem IsRow.ints{w:World}{a:Option Addr}{len cap:Nat}{zs:List Int}(h:IsRow .i64 w a len cap zs) :
  ∃l,IntsAt w (.slice a len cap) l∧(∀x∈l,-9223372036854775808≤x∧x≤9223372036854775807)∧(l≠[]→∀b,(Value.slice a len cap).ownBlock=some b→b<w.heap.size):=by
 rcases h with ⟨rfl,rfl,rfl,rfl⟩|⟨x,rfl,hl,hm,hz,hcell,hwf⟩
 ·exact ⟨[],⟨none,0,rfl,by simp,fun i x h=>by simp at h⟩,fun x h=>by simp at h,fun h=>absurd rfl h⟩
 ·have hlen:(zs.take len).length=len:=by simp;omega
  have hpos:∀i,i<(zs.take len).length→∃b off,x=⟨b,off,none⟩∧w.cell? ⟨b,off+i,none⟩=some (.int .i64 (zs.getD i 0)):=fun i hi=>by
   obtain ⟨b,off,e,hj⟩:=ints_at hcell (by omega);exact ⟨b,off,e,hj i (by omega)⟩
  refine ⟨zs.take len,⟨some x,cap,by rw[hlen],by rw[hlen];omega,fun i y hi=>?_⟩,fun y hy=>?_,fun hne b hb=>?_⟩
  ·obtain ⟨h1,h2⟩:=List.getElem?_eq_some_iff.1 hi;obtain ⟨b,off,rfl,hc⟩:=hpos i h1;refine ⟨b,off,rfl,World.block_lt_of_cell? _ _ hc,?_⟩;rw[hc];simp at h2
   have hi2:i<zs.length:=by simp at h1;omega
   simp[List.getD,hi2,h2]
  ·have:=hwf y (List.mem_of_mem_take hy);simp only[Lit.wf,Bool.and_eq_true,decide_eq_true_eq]at this;exact this
  ·have hb':x.block=b:=by simpa[Value.ownBlock]using hb
   obtain ⟨c,off,rfl,hc⟩:=hpos 0 (List.length_pos_iff.2 hne);have:=World.block_lt_of_cell? _ _ hc;exact hb' ▸ this
end
end Go.Proofs.YtciaficoeajeaaaGreatDoor
