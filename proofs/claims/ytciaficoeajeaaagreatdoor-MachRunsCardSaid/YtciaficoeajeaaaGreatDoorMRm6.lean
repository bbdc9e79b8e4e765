/- Texts that belong together, joined. -/
import Derived.Test.YtciaficoeajeaaaGreatDoorMRArenaAt
import Derived.Test.YtciaficoeajeaaaGreatDoorMRm2
import Derived.Test.YtciaficoeajeaaaGreatDoorMRm5
import Derived.Lib.SliceRun
import Derived.Deep.RegionHeld3
import Derived.StillTailTactics
import Derived.Deep.LoopGhost
import Derived.Test.YtciaficoeajeaaaGreatDoorMRPform
import Derived.Test.YtciaficoeajeaaaGreatDoorMRm3
import Derived.Deep.QuietTactic
import Derived.BigQuiet
import Derived.Outline
import Derived.Maps.OwnSet
import Derived.Maps.OwnOps
import Derived.StringKeys
import Derived.Carry
import Derived.Maps.Views
import Derived.Test.YtciaficoeajeaaaGreatDoorMRDrain
import Derived.RangeFuncBox
import Derived.RangeFuncFrom
import Derived.RangeFuncLeaves
import Derived.Shelf.Abstract
import Derived.WalkKit
import Derived.OwnWalkIn
import Derived.TacticsInMore
import Derived.LoopNIn
import Derived.LoopIn
import Derived.Laws.AppendOwnNone
import Derived.OwnWalk
import Derived.LoopTactic
import Derived.ChangeArms
import Derived.Lib.SmallJoins
set_option linter.unusedVariables false
set_option linter.unusedSimpArgs false
set_option linter.unusedSectionVars false
set_option maxHeartbeats 16000000
set_option maxRecDepth 100000
namespace Go.Proofs.YtciaficoeajeaaaGreatDoor
section
open Go.RowKit Qs Qh
def timesOk(l:List Cell):Prop:=∀(i:Nat) c,l[i]?=some c→0≤c.times∧c.times≤1000000000
variable {w:World}{b g:Nat}{l:List Cell}{a:Nat→Addr}
theorem aword_ok(R:AAt w b g l)(hn:l.length≤64)(ht:timesOk l){i:Nat}{x:Cell}(hi:l[i]?=some x)(hh:x.here=true)(j:Nat)(hj:j<4) :
  Calls Tryz.prog 86 #[.pointer (some ⟨b,0,none⟩),.agg #[.int .i64 i,.int .i64 (x.times - 1)],.int .i64 j] w fun e w'=>e=.returned (.tuple #[.pointer (some ⟨g,i*6+j,none⟩),.nilIface])∧Mod noF w w':=by
 have hcall:=arenaAt_hit (R.keep0 ((Mod.refl noF w).alloc (refBox i (x.times - 1)))) hn hi hh (ht i x hi)
 have d0:decide ((j:Int)<0)=false:=by simp
 have d1:decide ((4:Int)≤(j:Int))=false:=by simp;omega
 have d2:(j:Int)<4:=by omega
 have Hcall:=Lib.hid hcall;clear hcall R ht hi hh
 go_enter Tryz.func86,Tryz.ntmps86
 go_wp2_with fail
 refine Hcall.out.mono ?_;rintro e w1 ⟨rfl,hm⟩;have Hm:=Lib.hid (((Mod.refl noF w).alloc _).trans0 hm);clear hm Hcall;go_wp2;go_ret2;exact ⟨rfl,Hm.out⟩
theorem aword_stale(R:AAt w b g l)(E:Errs4 w a)(hn:l.length≤64)(ht:timesOk l)(c r:Int)(h:hereIn l c r=false)(j:Int) :
  Calls Tryz.prog 86 #[.pointer (some ⟨b,0,none⟩),.agg #[.int .i64 c,.int .i64 r],.int .i64 j] w fun e w'=>e=.returned (.tuple #[.pointer none,errV a 6])∧Mod noF w w':=by
 have hq:=(Mod.refl noF w).alloc (refBox c r);have hcall:=arenaAt_miss (R.keep0 hq) (E.keep hq) hn ht c r h;unfold errV at hcall;have Hcall:=Lib.hid hcall;clear hcall R E ht h hq
 go_enter Tryz.func86,Tryz.ntmps86
 go_wp2_with fail
 refine Hcall.out.mono ?_;rintro e w1 ⟨rfl,hm⟩;have Hm:=Lib.hid (((Mod.refl noF w).alloc _).trans0 hm);clear hm Hcall;go_wp2;go_ret2;exact ⟨rfl,Hm.out⟩
theorem aword_bound(R:AAt w b g l)(E:Errs4 w a)(hn:l.length≤64)(ht:timesOk l){i:Nat}{x:Cell}(hi:l[i]?=some x)(hh:x.here=true)(j:Int)(hj:j<0∨4≤j) :
  Calls Tryz.prog 86 #[.pointer (some ⟨b,0,none⟩),.agg #[.int .i64 i,.int .i64 (x.times - 1)],.int .i64 j] w fun e w'=>e=.returned (.tuple #[.pointer none,errV a 1])∧Mod noF w w':=by
 have hcall:=arenaAt_hit (R.keep0 ((Mod.refl noF w).alloc (refBox i (x.times - 1)))) hn hi hh (ht i x hi);have HE:=Lib.hid E;have Hcall:=Lib.hid hcall;clear hcall R ht hi hh E
 by_cases j0:j<0
 ·have d0:decide (j<0)=true:=by simpa using j0
  go_enter Tryz.func86,Tryz.ntmps86
  go_wp2_with fail
  refine Hcall.out.mono ?_;rintro e w1 ⟨rfl,hm⟩;have hm':=((Mod.refl noF w).alloc _).trans0 hm;have hv:=(HE.out.keep hm').v1;have Hm:=Lib.hid hm';clear hm hm' Hcall;go_wp2
  go_quiet (fail)
  go_wp2;go_ret2;exact ⟨rfl,Hm.out.drewN _⟩
 ·have d0:decide (j<0)=false:=by simpa using j0
  have d1:decide (4≤j)=true:=by simp;omega
  go_enter Tryz.func86,Tryz.ntmps86
  go_wp2_with fail
  refine Hcall.out.mono ?_;rintro e w1 ⟨rfl,hm⟩;have hm':=((Mod.refl noF w).alloc _).trans0 hm;have hv:=(HE.out.keep hm').v1;have Hm:=Lib.hid hm';clear hm hm' Hcall;go_wp2
  go_quiet (fail)
  go_wp2;go_ret2;exact ⟨rfl,Hm.out.drewN _⟩
def loadE(l:List Cell)(c r j:Int):Int × Int:=if hereIn l c r then (if 0≤j∧j<4 then (getWord l c.toNat j.toNat,0)else (0,2))else (0,7)
def errOf'(a:Nat→Addr)(e:Int):Value:=if e=0 then .nilIface else errV a (e.toNat - 1)
theorem acell_word(c:Cell)(j:Nat)(hj:j<4):(acell 0 c)[j]?=some (.int .i64 (c.words.getD j 0)):=by
 rcases (by omega:j=0∨j=1∨j=2∨j=3)with rfl|rfl|rfl|rfl <;> rfl
theorem aload_any(R:AAt w b g l)(E:Errs4 w a)(hn:l.length≤64)(ht:timesOk l)(c r j:Int) :
  Calls Tryz.prog 104 #[.pointer (some ⟨b,0,none⟩),.agg #[.int .i64 c,.int .i64 r],.int .i64 j] w fun e w'=>e=.returned (.tuple #[.int .i64 (loadE l c r j).1,errOf' a (loadE l c r j).2])∧Mod noF w w':=by
 have hq:=(Mod.refl noF w).alloc (refBox c r);have HR:=Lib.hid R;have HE:=Lib.hid E
 cases hin:hereIn l c r with
 |false=>
  have e:loadE l c r j=(0,7):=by simp[loadE,hin]
  rw[e];have hcall:=aword_stale (R.keep0 hq) (E.keep hq) hn ht c r hin j;unfold errV at hcall;have Hcall:=Lib.hid hcall;clear hcall R E ht hin hq e
  go_enter Tryz.func104,Tryz.ntmps104
  go_wp2_with fail
  refine Hcall.out.mono ?_;rintro e w1 ⟨rfl,hm⟩;have Hm:=Lib.hid (((Mod.refl noF w).alloc _).trans0 hm);clear hm Hcall;go_wp2;go_ret2;exact ⟨by simp[errOf',errV],Hm.out⟩
 |true=>
  obtain ⟨i,x,rfl,hil,hi,hh,rfl⟩:=hereIn_at hin
  by_cases hj:0≤j∧j<4
  ·obtain ⟨j,rfl⟩:=Int.eq_ofNat_of_zero_le hj.1
   have e:loadE l i (x.times - 1) j=(x.words.getD j 0,0):=by
    simp only[loadE,hin,if_true,if_pos hj,getWord,Int.toNat_natCast,hi];rfl
   rw[e]
   have hj4:j<4:=by omega
   have hcall:=aword_ok (R.keep0 hq) hn ht hi hh j hj4;have Hcall:=Lib.hid hcall;have Hi:=Lib.hid hi;clear hcall R E ht hin hq e hj hi
   go_enter Tryz.func104,Tryz.ntmps104
   go_wp2_with fail
   refine Hcall.out.mono ?_;rintro e w1 ⟨rfl,hm⟩;have hm':=((Mod.refl noF w).alloc _).trans0 hm;have hc:=((HR.out.keep0 hm').cell Hi.out (j:=j) (by omega)).trans (acell_word x j hj4);have hbl:=(HR.out.keep0 hm').lt.2;have Hm:=Lib.hid hm';clear hm hm' Hcall;go_wp2;go_ret2
   exact ⟨by simp[errOf'],Hm.out⟩
  ·have e:loadE l i (x.times - 1) j=(0,2):=by simp only[loadE,hin,if_true,if_neg hj]
   rw[e];have hcall:=aword_bound (R.keep0 hq) (E.keep hq) hn ht hi hh j (by omega);unfold errV at hcall;have Hcall:=Lib.hid hcall;clear hcall R E ht hin hq e hj hi
   go_enter Tryz.func104,Tryz.ntmps104
   go_wp2_with fail
   refine Hcall.out.mono ?_;rintro e w1 ⟨rfl,hm⟩;have Hm:=Lib.hid (((Mod.refl noF w).alloc _).trans0 hm);clear hm Hcall;go_wp2;go_ret2;exact ⟨by simp[errOf',errV],Hm.out⟩
def storeE(l:List Cell)(c r j v:Int):Int:=if hereIn l c r then (if 0≤j∧j<4 then (if isWord v then 0 else 2)else 2)else 7
theorem acell_setWord(c:Cell)(hc:c.words.length=4)(j:Nat)(hj:j<4)(v:Int):acell 0 {c with words:=c.words.set j v} = (acell 0 c).set j (.int .i64 v):=by
 obtain ⟨ws,t,h⟩:=c
 match ws,hc with
 |[a0,a1,a2,a3],_=>
  rcases (by omega:j=0∨j=1∨j=2∨j=3)with rfl|rfl|rfl|rfl <;> rfl
def wordsOk(l:List Cell):Prop:=∀(i:Nat) c,l[i]?=some c→c.words.length=4
theorem modify_at{l:List Cell}{i:Nat}{c:Cell}(hi:l[i]?=some c)(f:Cell→Cell):l.modify i f=l.set i (f c):=by
 apply List.ext_getElem?;intro k;rw[List.getElem?_modify,List.getElem?_set];have hlt:=(List.getElem?_eq_some_iff.1 hi).1
 by_cases e:i=k
 ·subst e;have:=(List.getElem?_eq_some_iff.1 hi).2;simp[hlt,this]
 ·simp[e]
theorem setWord_at{l:List Cell}{i j:Nat}{v:Int}{c:Cell}(hi:l[i]?=some c):setWord l i j v=l.set i {c with words:=c.words.set j v}:=by
 unfold setWord;rw[modify_at hi]
theorem astore_any(R:AAt w b g l)(E:Errs4 w a)(hn:l.length≤64)(ht:timesOk l)(hwo:wordsOk l)(c r j v:Int) :
  Calls Tryz.prog 42 #[.pointer (some ⟨b,0,none⟩),.agg #[.int .i64 c,.int .i64 r],.int .i64 j,.int .i64 v] w fun e w'=>e=.returned (errOf' a (storeE l c r j v))∧Mod (fun x=>x=g) w w'∧
   AAt w' b g (if storeE l c r j v=0 then setWord l c.toNat j.toNat v else l):=by
 have hq:=(Mod.refl noF w).alloc (refBox c r);have HR:=Lib.hid R;have HE:=Lib.hid E
 cases hin:hereIn l c r with
 |false=>
  have e:storeE l c r j v=7:=by simp[storeE,hin]
  rw[e];have hcall:=aword_stale (R.keep0 hq) (E.keep hq) hn ht c r hin j;unfold errV at hcall;have Hcall:=Lib.hid hcall;clear hcall R E ht hin hq e
  go_enter Tryz.func42,Tryz.ntmps42
  go_wp2_with fail
  refine Hcall.out.mono ?_;rintro e w1 ⟨rfl,hm⟩;have Hm:=Lib.hid (((Mod.refl noF w).alloc _).trans0 hm);clear hm Hcall;go_wp2;go_ret;exact ⟨by simp[errOf',errV],Hm.out.any,by simpa using HR.out.keep0 Hm.out⟩
 |true=>
  obtain ⟨i,x,rfl,hil,hi,hh,rfl⟩:=hereIn_at hin
  by_cases hj:0≤j∧j<4
  ·obtain ⟨j,rfl⟩:=Int.eq_ofNat_of_zero_le hj.1
   have hj4:j<4:=by omega
   have hcall:=aword_ok (R.keep0 hq) hn ht hi hh j hj4;have Hcall:=Lib.hid hcall;have Hi:=Lib.hid hi;have Hwo:=Lib.hid hwo
   cases hw:isWord v with
   |true=>
    have e:storeE l i (x.times - 1) j v=0:=by simp only[storeE,hin,if_true,if_pos hj,hw]
    rw[e,if_pos rfl,setWord_at (by rw[Int.toNat_natCast];exact hi)];have Hw:=Lib.hid hw;clear hcall R E ht hin hq e hj hi hwo hw
    go_enter Tryz.func42,Tryz.ntmps42
    go_wp2_with fail
    refine Hcall.out.mono ?_;rintro e w1 ⟨rfl,hm⟩;have hm':=((Mod.refl noF w).alloc _).trans0 hm;have R1:=HR.out.keep0 hm';have hc:=(R1.cell Hi.out (j:=j) (by omega)).trans (acell_word x j hj4);have hf:=R1.free (i*6+j);have hbl:=R1.lt.2;have Hm:=Lib.hid hm';have HR1:=Lib.hid R1;clear hm hm' Hcall R1
    go_wp2_with (go_at_call 78;refine (right_any _ _).mono ?_;rintro e w' ⟨rfl,rfl⟩;rw[Hw.out])
    go_ret;refine ⟨by simp[errOf'],(Hm.out.any (F:=fun x=>x=g)).setCell (fun _=>rfl) _,?_⟩;rw[Int.toNat_natCast,Int.toNat_natCast];exact HR1.out.set Hi.out (by omega) _ (acell_setWord x (Hwo.out i x Hi.out) j hj4 v)
   |false=>
    have e:storeE l i (x.times - 1) j v=2:=by simp only[storeE,hin,if_true,if_pos hj,hw];rfl
    rw[e];have Hw:=Lib.hid hw;clear hcall R E ht hin hq e hj hi hwo hw
    go_enter Tryz.func42,Tryz.ntmps42
    go_wp2_with fail
    refine Hcall.out.mono ?_;rintro e w1 ⟨rfl,hm⟩;have hm':=((Mod.refl noF w).alloc _).trans0 hm;have hv:=(HE.out.keep hm').v1;have Hm:=Lib.hid hm';clear hm hm' Hcall
    go_wp2_with (go_at_call 78;refine (right_any _ _).mono ?_;rintro e w' ⟨rfl,rfl⟩;rw[Hw.out])
    go_ret;exact ⟨by simp[errOf',errV],Hm.out.any,by simpa using HR.out.keep0 Hm.out⟩
  ·have e:storeE l i (x.times - 1) j v=2:=by simp only[storeE,hin,if_true,if_neg hj]
   rw[e];have hcall:=aword_bound (R.keep0 hq) (E.keep hq) hn ht hi hh j (by omega);unfold errV at hcall;have Hcall:=Lib.hid hcall;clear hcall R E ht hin hq e hj hi hwo
   go_enter Tryz.func42,Tryz.ntmps42
   go_wp2_with fail
   refine Hcall.out.mono ?_;rintro e w1 ⟨rfl,hm⟩;have Hm:=Lib.hid (((Mod.refl noF w).alloc _).trans0 hm);clear hm Hcall;go_wp2;go_ret;exact ⟨by simp[errOf',errV],Hm.out.any,by simpa using HR.out.keep0 Hm.out⟩
theorem afree_any(R:AAt w b g l)(E:Errs4 w a)(hn:l.length≤64)(ht:timesOk l)(c r:Int) :
  Calls Tryz.prog 123 #[.pointer (some ⟨b,0,none⟩),.agg #[.int .i64 c,.int .i64 r]] w fun e w'=>e=.returned (errOf' a (if hereIn l c r then 0 else 7))∧Mod (fun x=>x=g) w w'∧
   AAt w' b g (if hereIn l c r then l.modify c.toNat (fun y=>{y with here:=false})else l):=by
 have hq:=(Mod.refl noF w).alloc (refBox c r);have HR:=Lib.hid R
 cases hin:hereIn l c r with
 |false=>
  have hcall:=arenaAt_miss (R.keep0 hq) (E.keep hq) hn ht c r hin;unfold errV at hcall;have Hcall:=Lib.hid hcall;clear hcall R E ht hin hq
  go_enter Tryz.func123,Tryz.ntmps123
  go_wp2_with fail
  refine Hcall.out.mono ?_;rintro e w1 ⟨rfl,hm⟩;have Hm:=Lib.hid (((Mod.refl noF w).alloc _).trans0 hm);clear hm Hcall;go_wp2;go_ret;exact ⟨by simp[errOf',errV],Hm.out.any,by simpa using HR.out.keep0 Hm.out⟩
 |true=>
  obtain ⟨i,x,rfl,hil,hi,hh,rfl⟩:=hereIn_at hin;have hcall:=arenaAt_hit (R.keep0 hq) hn hi hh (ht i x hi);have Hcall:=Lib.hid hcall;have Hi:=Lib.hid hi;clear hcall R E ht hin hq hi
  go_enter Tryz.func123,Tryz.ntmps123
  go_wp2_with fail
  refine Hcall.out.mono ?_;rintro e w1 ⟨rfl,hm⟩;have hm':=((Mod.refl noF w).alloc _).trans0 hm;have R1:=HR.out.keep0 hm';have c5:w1.cell? ⟨g,i*6+5,none⟩=some (.bool x.here):=(R1.cell Hi.out (j:=5) (by omega)).trans rfl;have hf:=R1.free (i*6+5);have hbl:=R1.lt.2;have Hm:=Lib.hid hm'
  have HR1:=Lib.hid R1;clear hm hm' Hcall R1;go_wp2;go_ret;refine ⟨by simp[errOf'],(Hm.out.any (F:=fun x=>x=g)).setCell (fun _=>rfl) _,?_⟩;rw[modify_at Hi.out];exact HR1.out.set Hi.out (j:=5) (by omega) (.bool false) rfl
end
section
open Go.RowKit Qs Qh
structure PB where
 bM:Nat
 bA:Nat
 gA:Nat
 bW:Nat
def PFoot(B:PB)(vs:List Value)(x:Nat):Prop:=x=B.bM∨x=B.bA∨x=B.gA∨x=B.bW∨∃v∈vs,v.ownBlock=some x
abbrev waitRow(w:World)(v:Value)(q:List Wt):Prop:=offRow w 182 4 v q.length (flat wtVals 0 q)
structure PMV(w:World)(B:PB)(l:List Cell)(ws:List (List Wt))(vs:List Value):Prop where
 top:w.heap[B.bM]?=some (.cells #[.pointer (some ⟨B.bA,0,none⟩),.slice (some ⟨B.bW,0,none⟩) ws.length ws.length] 107 (0,0))
 arena:AAt w B.bA B.gA l
 rows:w.heap[B.bW]?=some (.cells vs.toArray 180 (0,0))
 len:vs.length=ws.length
 row:∀(t:Nat) v q,vs[t]?=some v→ws[t]?=some q→waitRow w v q
 n1:B.bM≠B.bA∧B.bM≠B.gA∧B.bM≠B.bW∧B.bA≠B.bW∧B.gA≠B.bW
 own:∀v∈vs,∀g,v.ownBlock=some g→g≠B.bM∧g≠B.bA∧g≠B.gA∧g≠B.bW
 sep:∀(i j:Nat) v u g,vs[i]?=some v→vs[j]?=some u→v.ownBlock=some g→u.ownBlock=some g→i=j
variable {w w1 w2 w':World}{B:PB}{l l':List Cell}{ws ws':List (List Wt)}{vs vs':List Value}
theorem PMV.keep{F:Nat→Prop}(h:PMV w B l ws vs)(hM:Mod F w w')(hF:∀x,PFoot B vs x→¬F x):PMV w' B l ws vs:=
 ⟨hM.heap h.top (hF _ (.inl rfl)),h.arena.keep hM (hF _ (.inr (.inl rfl))) (hF _ (.inr (.inr (.inl rfl)))),hM.heap h.rows (hF _ (.inr (.inr (.inr (.inl rfl))))),h.len,
  fun t v q hv hq=>(h.row t v q hv hq).keep hM fun g hg=>hF g (.inr (.inr (.inr (.inr ⟨v,List.mem_of_getElem? hv,hg⟩)))),h.n1,h.own,h.sep⟩
theorem PMV.keep0(h:PMV w B l ws vs)(hM:Mod noF w w'):PMV w' B l ws vs:=h.keep hM fun _ _ e=>e
theorem PMV.lt(h:PMV w B l ws vs){x:Nat}(hx:PFoot B vs x):x<w.heap.size:=by
 rcases hx with rfl|rfl|rfl|rfl|⟨v,hv,hg⟩
 ·exact lt_of_block h.top
 ·exact h.arena.lt.1
 ·exact h.arena.lt.2
 ·exact lt_of_block h.rows
 ·obtain ⟨t,ht⟩:=List.mem_iff_getElem?.1 hv
  have:t<ws.length:=by rw[←h.len];exact (List.getElem?_eq_some_iff.1 ht).1
  exact (h.row t v _ ht (List.getElem?_eq_getElem this)).lt x hg
structure PUp(w:World)(B:PB)(vs:List Value)(w':World)(l':List Cell)(ws':List (List Wt))(vs':List Value):Prop where
 rep:PMV w' B l' ws' vs'
 mod:Mod (PFoot B vs) w w'
 foot:∀x,PFoot B vs' x→PFoot B vs x∨w.heap.size≤x
theorem PUp.quiet(h:PMV w B l ws vs)(hM:Mod noF w w'):PUp w B vs w' l ws vs:=⟨h.keep0 hM,hM.any,fun _ h=>.inl h⟩
theorem PUp.trans{l1 l2:List Cell}{ws1 ws2:List (List Wt)}{vs1 vs2:List Value}(h:PUp w B vs w1 l1 ws1 vs1)(k:PUp w1 B vs1 w2 l2 ws2 vs2):PUp w B vs w2 l2 ws2 vs2:=
 ⟨k.rep,h.mod.trans k.mod (fun x hx hf=>(h.foot x hf).resolve_right (by omega)),fun x hx=>(k.foot x hx).elim (fun e=>h.foot x e) (fun e=>.inr (Nat.le_trans h.mod.size e))⟩
theorem PUp.then0{l1:List Cell}{ws1:List (List Wt)}{vs1:List Value}(h:PUp w B vs w1 l1 ws1 vs1)(k:Mod noF w1 w2):PUp w B vs w2 l1 ws1 vs1:=h.trans (PUp.quiet h.rep k)
theorem PUp.aside{l1:List Cell}{ws1:List (List Wt)}{vs1:List Value}{g:Nat}(h:PUp w B vs w1 l1 ws1 vs1)(hne:¬PFoot B vs1 g)(hg:w.heap.size≤g)(hM:Mod (fun x=>x=g) w1 w2):PUp w B vs w2 l1 ws1 vs1:=
 ⟨h.rep.keep hM (fun x hx e=>hne (e ▸ hx)),h.mod.trans hM (fun x hx e=>by omega),h.foot⟩
theorem PUp.heap{l1:List Cell}{ws1:List (List Wt)}{vs1:List Value}{g:Nat}{o:Obj}(h:PUp w B vs w1 l1 ws1 vs1)(hne:¬PFoot B vs g)(hg:w.heap[g]?=some o):w1.heap[g]?=some o:=h.mod.heap hg hne
theorem PMV.cells(h:PMV w B l ws vs)(hM:Mod (fun x=>x=B.gA) w w')(A:AAt w' B.bA B.gA l'):PUp w B vs w' l' ws vs:=by
 obtain ⟨n1,n2,n3,n4,n5⟩:=h.n1
 refine ⟨⟨hM.heap h.top n2,A,hM.heap h.rows (fun e=>n5 e.symm),h.len,fun t v q hv hq=>(h.row t v q hv hq).keep hM fun g hg=>(h.own v (List.mem_of_getElem? hv) g hg).2.2.1,h.n1,h.own,h.sep⟩,
  hM.mono fun x _ e=>.inr (.inr (.inl e)),fun _ h=>.inl h⟩
theorem PMV.setRow(h:PMV w B l ws vs){t:Nat}{v v':Value}{q':List Wt}(hv:vs[t]?=some v)(hM:Mod (fun x=>v.ownBlock=some x) w w2)(hrow:waitRow w2 v' q')
  (hnew:∀g,v'.ownBlock=some g→v.ownBlock=some g∨w.heap.size≤g):PUp w B vs (w2.setCell ⟨B.bW,t,none⟩ v') l (ws.set t q') (vs.set t v'):=by
 obtain ⟨n1,n2,n3,n4,n5⟩:=h.n1;have hvm:=List.mem_of_getElem? hv;have hown:=h.own v hvm;have htl:t<vs.length:=(List.getElem?_eq_some_iff.1 hv).1;have hM2:Mod (fun x=>x=B.bW) w2 (w2.setCell ⟨B.bW,t,none⟩ v'):=(Mod.refl (fun x=>x=B.bW) w2).setCell (fun _=>rfl) _
 have hlb:∀x,PFoot B vs x→x<w.heap.size:=fun x hx=>h.lt hx
 have hv'own:∀g,v'.ownBlock=some g→g≠B.bM∧g≠B.bA∧g≠B.gA∧g≠B.bW:=fun g hg=>by
  rcases hnew g hg with e|e
  ·exact hown g e
  ·have a1:=hlb _ (.inl rfl);have a2:=hlb _ (.inr (.inl rfl));have a3:=hlb _ (.inr (.inr (.inl rfl)));have a4:=hlb _ (.inr (.inr (.inr (.inl rfl))));exact ⟨by omega,by omega,by omega,by omega⟩
 have hkeep:∀b,(v.ownBlock=some b→False)→b≠B.bW→∀o,w.heap[b]?=some o→(w2.setCell ⟨B.bW,t,none⟩ v').heap[b]?=some o:=fun b h1 h2 o ho=>hM2.heap (hM.heap ho h1) h2;refine ⟨⟨?_,?_,?_,by rw[List.length_set,List.length_set];exact h.len,?_,h.n1,?_,?_⟩,?_,?_⟩
 ·rw[List.length_set];exact hkeep _ (fun e=>(hown _ e).1 rfl) n3 _ h.top
 ·exact (h.arena.keep hM (fun e=>(hown _ e).2.1 rfl) (fun e=>(hown _ e).2.2.1 rfl)).keep hM2 n4 n5
 ·have h0:=hM.heap h.rows (fun e=>(hown _ e).2.2.2 rfl);have:=Qh.heap_setCell_same h0 t v'
  simpa using this
 ·intro j u q hu hq;rw[List.getElem?_set]at hu hq
  by_cases e:t=j
  ·subst e;rw[if_pos rfl,if_pos htl]at hu;rw[if_pos rfl,if_pos (by rw[←h.len];exact htl)]at hq;cases hu;cases hq;exact hrow.keep hM2 fun g hg=>(hv'own g hg).2.2.2
  ·rw[if_neg e]at hu hq;refine ((h.row j u q hu hq).keep hM fun g hg hg'=>e (h.sep t j v u g hv hu hg' hg)).keep hM2 fun g hg=>(h.own u (List.mem_of_getElem? hu) g hg).2.2.2
 ·intro u hu g hg
  rcases List.mem_or_eq_of_mem_set hu with h1|rfl
  ·exact h.own u h1 g hg
  ·exact hv'own g hg
 ·intro i j u x g hu hx hug hxg;rw[List.getElem?_set]at hu hx;have low:∀(k:Nat) y,vs[k]?=some y→y.ownBlock=some g→g<w.heap.size:=fun k y hy hg=>hlb g (.inr (.inr (.inr (.inr ⟨y,List.mem_of_getElem? hy,hg⟩))))
  by_cases e1:t=i
  ·subst e1;rw[if_pos rfl,if_pos htl]at hu;cases hu
   by_cases e2:t=j
   ·exact e2
   ·rw[if_neg e2]at hx
    rcases hnew g hug with e|e
    ·exact h.sep t j v x g hv hx e hxg
    ·have:=low j x hx hxg;omega
  ·rw[if_neg e1]at hu
   by_cases e2:t=j
   ·subst e2;rw[if_pos rfl,if_pos htl]at hx;cases hx
    rcases hnew g hxg with e|e
    ·exact h.sep i t u v g hu hv hug e
    ·have:=low i u hu hug;omega
   ·rw[if_neg e2]at hx;exact h.sep i j u x g hu hx hug hxg
 ·exact (hM.mono fun x _ e=>.inr (.inr (.inr (.inr ⟨v,hvm,e⟩)))).trans hM2 (fun x _ e=>.inr (.inr (.inr (.inl e))))
 ·intro x hx
  rcases hx with rfl|rfl|rfl|rfl|⟨u,hu,hg⟩
  ·exact .inl (.inl rfl)
  ·exact .inl (.inr (.inl rfl))
  ·exact .inl (.inr (.inr (.inl rfl)))
  ·exact .inl (.inr (.inr (.inr (.inl rfl))))
  ·rcases List.mem_or_eq_of_mem_set hu with h1|rfl
   ·exact .inl (.inr (.inr (.inr (.inr ⟨u,h1,hg⟩))))
   ·rcases hnew x hg with e|e
    ·exact .inl (.inr (.inr (.inr (.inr ⟨v,hvm,e⟩))))
    ·exact .inr e
theorem PMV.ptr(h:PMV w B l ws vs):w.cell? ⟨B.bM,0,none⟩=some (.pointer (some ⟨B.bA,0,none⟩)):=(cell_of_heap h.top 0).trans rfl
theorem PMV.slice(h:PMV w B l ws vs):w.cell? ⟨B.bM,1,none⟩=some (.slice (some ⟨B.bW,0,none⟩) ws.length ws.length):=(cell_of_heap h.top 1).trans rfl
theorem PMV.rowAt(h:PMV w B l ws vs){t:Nat}{q:List Wt}(hq:ws[t]?=some q):∃v a c,vs[t]?=some v∧v=.slice a q.length c∧q.length≤c∧c≤maxLen∧w.cell? ⟨B.bW,t,none⟩=some (.slice a q.length c)∧waitRow w (.slice a q.length c) q:=by
 have htl:t<vs.length:=by rw[h.len];exact (List.getElem?_eq_some_iff.1 hq).1
 have hv:=List.getElem?_eq_getElem htl;have hr:=h.row t _ q hv hq;obtain ⟨a,c,e,h1,h2⟩:=hr.slice;refine ⟨_,a,c,hv,e,h1,h2,?_,e ▸ hr⟩;rw[cell_of_heap h.rows,←e];simp
end
section
open Go.RowKit Qs Qh
variable {w:World}{B:PB}{l:List Cell}{ws:List (List Wt)}{vs:List Value}{a:Nat→Addr}
structure PLow(b0 w:World)(a:Nat→Addr)(B:PB)(vs:List Value):Prop where
 errs:Errs4 b0 a
 mod:Mod noF b0 w
 low:∀x,PFoot B vs x→b0.heap.size≤x
theorem PLow.E{b0:World}(h:PLow b0 w a B vs):Errs4 w a:=h.errs.keep h.mod
theorem PLow.up{b0 w':World}{l':List Cell}{ws':List (List Wt)}{vs':List Value}(h:PLow b0 w a B vs)(u:PUp w B vs w' l' ws' vs'):PLow b0 w' a B vs':=
 ⟨h.errs,h.mod.trans u.mod (fun x hx e=>by have:=h.low x e;omega),fun x hx=>(u.foot x hx).elim (h.low x) (fun e=>Nat.le_trans h.mod.size e)⟩
theorem PLow.keep{b0 w':World}(h:PLow b0 w a B vs)(hM:Mod noF w w'):PLow b0 w' a B vs:=⟨h.errs,h.mod.trans0 hM,h.low⟩
theorem pthread_ok(h:PMV w B l ws vs)(t:Nat)(ht:t<ws.length) :
  Calls Tryz.prog 84 #[.pointer (some ⟨B.bM,0,none⟩),.int .i64 t] w fun e w'=>e=.returned .nilIface∧w=w':=by
 have d0:decide ((t:Int)<0)=false:=by simp
 have d1:decide ((ws.length:Int)≤(t:Int))=false:=by simp;omega
 have hm:=h.slice;have hb:=h.lt (x:=B.bM) (.inl rfl);clear h
 go_enter Tryz.func84,Tryz.ntmps84
 go_wp2;go_ret;exact ⟨rfl,rfl⟩
theorem pwaiting_ok(h:PMV w B l ws vs){t:Nat}{q:List Wt}(hq:ws[t]?=some q)(hn:ws.length≤6) :
  Calls Tryz.prog 89 #[.pointer (some ⟨B.bM,0,none⟩),.int .i64 t] w fun e w'=>e=.returned (.int .i64 q.length)∧w=w':=by
 have ht:=(List.getElem?_eq_some_iff.1 hq).1;have hm:=h.slice;have hb:=h.lt (x:=B.bM) (.inl rfl);have hb2:=h.lt (x:=B.bW) (.inr (.inr (.inr (.inl rfl))));obtain ⟨v,a,c,_,_,h1,h2,h3,_⟩:=h.rowAt hq
 have htn:(t:Int)<(ws.length:Int):=by omega
 have H:=Lib.hid h;clear h hq
 go_enter Tryz.func89,Tryz.ntmps89
 go_wp2_with fail
 refine (pthread_ok H.out t ht).mono ?_;rintro e w' ⟨rfl,rfl⟩;go_wp2;go_ret;exact ⟨rfl,rfl⟩
end
section
open Go.RowKit Qs Qh
variable {w:World}{B:PB}{l:List Cell}{ws:List (List Wt)}{vs:List Value}{a:Nat→Addr}
theorem pwaitRowInfo:(Tryz.prog.info? 180).map (fun i=>(i.zero,i.size,i.bytes))=some (some (.slice none 0 0),1,24):=by kernel_rfl
theorem make_prows(n:Nat)(hn:n≤64)(w:World):(Instr.makeSlice 105 (.int .i64 n) (.int .i64 n)).run Tryz.prog w=.ok (.slice (some ⟨w.heap.size,0,none⟩) n n) (w.alloc (.cells (List.replicate n (.slice none 0 0)).toArray 180)):=by
 obtain ⟨i,hi,hz0,hz1,hz2⟩:=info_parts pwaitRowInfo;have:=run_makeSlice (P:=Tryz.prog) w 105 180 i _ Tryz.underlying105 hi hz0 .i64 .i64 n n (by omega) (by omega) (by rw[hz1];simp;omega) (by rw[hz2];omega) (by omega);rw[this,hz1]
 have e:(madeCells (Value.slice none 0 0).cells (n*1))=(List.replicate n (.slice none 0 0)).toArray:=by
  rw[←toList_madeCells_one];simp[Value.cells]
 simp only[Int.toNat_natCast];rw[e]
theorem pmNew_ok(n t:Nat)(h1:1≤n)(hn:n≤64)(t1:1≤t)(t6:t≤6)(w:World) :
  Calls Tryz.prog 32 #[.int .i64 n,.int .i64 t] w fun e w'=>∃B:PB,e=.returned (.tuple #[.pointer (some ⟨B.bM,0,none⟩),.nilIface])∧PMV w' B (List.replicate n freshCell) (List.replicate t []) (List.replicate t (.slice none 0 0))∧Mod noF w w'∧∀x,PFoot B (List.replicate t (.slice none 0 0)) x→w.heap.size≤x:=by
 have d0:decide ((t:Int)<1)=false:=by simp;omega
 have d1:decide ((6:Int)<(t:Int))=false:=by simp;omega
 have hmk:=make_prows t (by omega)
 go_enter Tryz.func32,Tryz.ntmps32
 go_wp2_with fail
 refine (arenaNew_ok n h1 hn w).mono ?_;rintro e w1 ⟨rfl,A1,hm1⟩;have HA1:=Lib.hid A1;have Hm1:=Lib.hid hm1;clear A1 hm1;go_wp2;have hs1:=Hm1.out.size;have hlt:=HA1.out.lt;have hx0:=heap_alloc_new w1 (.cells (Array.replicate t (.slice none 0 0)) 180)
 have hx1:=heap_alloc_new (w1.alloc (.cells (Array.replicate t (.slice none 0 0)) 180)) (.cells #[.pointer (some ⟨w.heap.size+1,0,none⟩),.slice (some ⟨w1.heap.size,0,none⟩) t t] 107)
 have hM:=((Mod.refl noF w1).alloc (.cells (Array.replicate t (.slice none 0 0)) 180)).alloc (.cells #[.pointer (some ⟨w.heap.size+1,0,none⟩),.slice (some ⟨w1.heap.size,0,none⟩) t t] 107)
 have hM1:=(Mod.refl noF (w1.alloc (.cells (Array.replicate t (.slice none 0 0)) 180))).alloc (.cells #[.pointer (some ⟨w.heap.size+1,0,none⟩),.slice (some ⟨w1.heap.size,0,none⟩) t t] 107);rw[World.size_alloc]at hx1;go_ret2
 refine ⟨⟨w1.heap.size+1,w.heap.size+1,w.heap.size,w1.heap.size⟩,rfl,⟨?_,HA1.out.keep0 hM,?_,by simp,?_,?_,?_,?_⟩,Hm1.out.trans0 hM,?_⟩
 ·rw[List.length_replicate];exact hx1
 ·rw[List.toArray_replicate];exact hM1.heap hx0 (fun e=>e)
 ·intro i v q hv hq;obtain rfl:=List.eq_of_mem_replicate (List.mem_of_getElem? hv);obtain rfl:=List.eq_of_mem_replicate (List.mem_of_getElem? hq);exact offRow_nil _ _ _
 ·exact ⟨by simp only;omega,by simp only;omega,by simp only;omega,by simp only;omega,by simp only;omega⟩
 ·intro v hv g hg;obtain rfl:=List.eq_of_mem_replicate hv;simp[Value.ownBlock]at hg
 ·intro i j v u g hv _ hg;obtain rfl:=List.eq_of_mem_replicate (List.mem_of_getElem? hv);simp[Value.ownBlock]at hg
 ·rintro x (rfl|rfl|rfl|rfl|⟨v,hv,hg⟩)
  ·simp only;omega
  ·simp only;omega
  ·exact Nat.le_refl _
  ·exact hs1
  ·obtain rfl:=List.eq_of_mem_replicate hv;simp[Value.ownBlock]at hg
theorem pmNew_cells(n t:Int)(h:n<1∨64<n)(w:World)(E:Errs4 w a) :
  Calls Tryz.prog 32 #[.int .i64 n,.int .i64 t] w fun e w'=>e=.returned (.tuple #[.pointer none,errV a 1])∧Mod noF w w':=by
 have hcall:=arenaNew_bad n h w a E;unfold errV at hcall;have Hcall:=Lib.hid hcall;clear hcall h E
 go_enter Tryz.func32,Tryz.ntmps32
 go_wp2_with fail
 refine Hcall.out.mono ?_;rintro e w1 ⟨rfl,hm1⟩;have Hm1:=Lib.hid hm1;clear hm1;go_wp2;go_ret2;exact ⟨rfl,Hm1.out⟩
theorem pmNew_threads(n:Nat)(t:Int)(h1:1≤n)(hn:n≤64)(h:t<1∨6<t)(w:World)(E:Errs4 w a) :
  Calls Tryz.prog 32 #[.int .i64 n,.int .i64 t] w fun e w'=>e=.returned (.tuple #[.pointer none,errV a 1])∧Mod noF w w':=by
 have HE:=Lib.hid E;clear E
 by_cases h0:t<1
 ·have d0:decide (t<1)=true:=by simpa using h0
  clear h
  go_enter Tryz.func32,Tryz.ntmps32
  go_wp2_with fail
  refine (arenaNew_ok n h1 hn w).mono ?_;rintro e w1 ⟨rfl,A1,hm1⟩;have hv:=(HE.out.keep hm1).v1;have Hm1:=Lib.hid hm1;clear A1 hm1;go_wp2
  go_quiet (fail)
  go_wp2;go_ret2;exact ⟨rfl,Hm1.out.drewN _⟩
 ·have d0:decide (t<1)=false:=by simpa using h0
  have d1:decide (6<t)=true:=by simp;omega
  clear h
  go_enter Tryz.func32,Tryz.ntmps32
  go_wp2_with fail
  refine (arenaNew_ok n h1 hn w).mono ?_;rintro e w1 ⟨rfl,A1,hm1⟩;have hv:=(HE.out.keep hm1).v1;have Hm1:=Lib.hid hm1;clear A1 hm1;go_wp2
  go_quiet (fail)
  go_wp2;go_ret2;exact ⟨rfl,Hm1.out.drewN _⟩
theorem pmAlloc_ok(h:PMV w B l ws vs)(E:Errs4 w a)(hn:l.length≤64)(ht:timesOk l){t:Nat}(htl:t<ws.length) :
  Calls Tryz.prog 41 #[.pointer (some ⟨B.bM,0,none⟩),.int .i64 t] w fun e w'=>
   (∃i c,allocAt l 0=some (i,c.times)∧l[i]?=some c∧e=.returned (.tuple #[.agg #[.int .i64 i,.int .i64 c.times],.nilIface])∧PUp w B vs w' (l.set i (givenCell c)) ws vs)∨
   (allocAt l 0=none∧e=.returned (.tuple #[.agg #[.int .i64 0,.int .i64 0],errV a 5])∧PUp w B vs w' l ws vs):=by
 have hq:=(Mod.refl noF w).alloc (refBox 0 0);have h2:=h.keep0 hq;have hu:=PUp.quiet h hq;have hp:=h2.ptr;have hb:=h2.lt (x:=B.bM) (.inl rfl);have hcall:=arenaAlloc h2.arena (E.keep hq) hn ht;unfold errV at hcall;have Hcall:=Lib.hid hcall;have H:=Lib.hid h2;have Hu:=Lib.hid hu
 have hnew:=heap_alloc_new w (refBox 0 0);have hnf:¬PFoot B vs w.heap.size:=fun hx=>Nat.lt_irrefl _ (h.lt hx);have hgA:=h.lt (x:=B.gA) (.inr (.inr (.inl rfl)));have Hnew:=Lib.hid hnew;have Hnf:=Lib.hid hnf;clear h h2 hu hq E ht hcall hnew hnf
 go_enter Tryz.func41,Tryz.ntmps41
 go_wp2_with fail
 refine (pthread_ok H.out t htl).mono ?_;rintro e w' ⟨rfl,rfl⟩
 go_wp2_with fail
 refine Hcall.out.mono ?_;rintro e w1 (⟨i,c,ha,hc,rfl,A1,hm1⟩|⟨ha,rfl,hm1⟩)
 ·have hx1:=hm1.heap Hnew.out (by omega);have c0:w1.cell? ⟨w.heap.size,0,none⟩=some (.int .i64 0):=(cell_of_heap hx1 0).trans rfl;have c1:w1.cell? ⟨w.heap.size,1,none⟩=some (.int .i64 0):=(cell_of_heap hx1 1).trans rfl;have f0:=free_of_heap hx1 0;have f1:=free_of_heap hx1 1;have hb1:=lt_of_block hx1
  have hup:=Hu.out.trans (H.out.cells hm1 A1);have Hup:=Lib.hid hup;clear A1 hm1 hup hx1 Hcall;go_wp2
  refine bodyPost_ret (v:=.tuple #[.agg #[.int .i64 i,.int .i64 c.times],.nilIface]) (by simp[results,Tryz.results41,go_sem,c0,c1]) rfl (.inl ⟨i,c,ha,hc,rfl,Hup.out.aside Hnf.out (Nat.le_refl _) (((Mod.refl (fun x=>x=w.heap.size) w1).setCell (fun _=>rfl) _).setCell (fun _=>rfl) _)⟩)
 ·have hx1:=hm1.heap Hnew.out (fun e=>e);have c0:w1.cell? ⟨w.heap.size,0,none⟩=some (.int .i64 0):=(cell_of_heap hx1 0).trans rfl;have c1:w1.cell? ⟨w.heap.size,1,none⟩=some (.int .i64 0):=(cell_of_heap hx1 1).trans rfl;have f0:=free_of_heap hx1 0;have f1:=free_of_heap hx1 1;have hb1:=lt_of_block hx1
  have hup:=Hu.out.then0 hm1;have Hup:=Lib.hid hup;clear hm1 hup hx1 Hcall;go_wp2
  refine bodyPost_ret (v:=.tuple #[.agg #[.int .i64 0,.int .i64 0],errV a 5]) (by simp[results,Tryz.results41,go_sem,c0,c1,errV]) rfl (.inr ⟨ha,rfl,Hup.out.aside Hnf.out (Nat.le_refl _) (((Mod.refl (fun x=>x=w.heap.size) w1).setCell (fun _=>rfl) _).setCell (fun _=>rfl) _)⟩)
end
section
open Go.RowKit Qs Qh
variable {w:World}{B:PB}{l:List Cell}{ws:List (List Wt)}{vs:List Value}{a:Nat→Addr}
theorem pdrain_none(h:PMV w B l ws vs)(E:Errs4 w a){t:Nat}(hq:ws[t]?=some [])(hn6:ws.length≤6) :
  Calls Tryz.prog 57 #[.pointer (some ⟨B.bM,0,none⟩),.int .i64 t] w fun e w'=>e=.returned (errV a 4)∧Mod noF w w':=by
 have htl:=(List.getElem?_eq_some_iff.1 hq).1;have hm:=h.slice;have hb:=h.lt (x:=B.bM) (.inl rfl);have hb2:=h.lt (x:=B.bW) (.inr (.inr (.inr (.inl rfl))));obtain ⟨v,ra,c,_,_,h1,h2,h3,_⟩:=h.rowAt hq
 have htn:(t:Int)<(ws.length:Int):=by omega
 have hvar:=E.v4;have H:=Lib.hid h;simp only[List.length_nil]at h3;clear h hq E
 go_enter Tryz.func57,Tryz.ntmps57
 go_wp2_with fail
 refine (pthread_ok H.out t htl).mono ?_;rintro e w' ⟨rfl,rfl⟩;go_wp2;go_ret;exact ⟨rfl,Mod.refl _ _⟩
def pdrainE(w:World)(a:Nat→Addr)(B:PB)(l:List Cell)(ws:List (List Wt))(vs:List Value)(t:Nat)(x:Wt)(q:List Wt)(e:Ending)(w':World):Prop:=
 e=.returned (errOf' a (storeE l x.c x.g x.w x.v))∧∃vs',PUp w B vs w' (if storeE l x.c x.g x.w x.v=0 then setWord l x.c.toNat x.w.toNat x.v else l) (ws.set t q) vs'
theorem pdrain_some{b0:World}(h:PMV w B l ws vs)(E:PLow b0 w a B vs)(hn:l.length≤64)(ht:timesOk l)(hwo:wordsOk l){t:Nat}{x:Wt}{q:List Wt}(hq:ws[t]?=some (x :: q))(hn6:ws.length≤6)(hq8:q.length≤8) :
  Calls Tryz.prog 57 #[.pointer (some ⟨B.bM,0,none⟩),.int .i64 t] w (pdrainE w a B l ws vs t x q):=by
 have htl:=(List.getElem?_eq_some_iff.1 hq).1;have hm:=h.slice;have hb:=h.lt (x:=B.bM) (.inl rfl);have hb2:=h.lt (x:=B.bW) (.inr (.inr (.inr (.inl rfl))));obtain ⟨v,ra,c,hvv,rfl,h1,h2,h3,hrow⟩:=h.rowAt hq;obtain ⟨g,s,c',e',hg,hfz,hcell⟩:=hrow.cell (by simp);simp only[Value.slice.injEq,true_and]at e'
 obtain ⟨rfl,rfl⟩:=e';have x0:w.cell? ⟨g,s,none⟩=some (.int .i64 x.c):=hcell 0 _ rfl;have x1:w.cell? ⟨g,s+1,none⟩=some (.int .i64 x.g):=hcell 1 _ rfl;have x2:w.cell? ⟨g,s+2,none⟩=some (.int .i64 x.w):=hcell 2 _ rfl;have x3:w.cell? ⟨g,s+3,none⟩=some (.int .i64 x.v):=hcell 3 _ rfl
 have htn:(t:Int)<(ws.length:Int):=by omega
 have hf:=free_of_heap h.rows t;simp only[List.length_cons]at h1 h3 hrow hvv
 have dq:decide (((q.length+1:Nat):Int)=0)=false:=by simp;omega
 have H:=Lib.hid h;have HE:=Lib.hid E;have Hrow:=Lib.hid hrow;have Hvv:=Lib.hid hvv;clear h hq E hrow hvv hcell hfz
 go_enter Tryz.func57,Tryz.ntmps57
 go_wp2_with fail
 refine (pthread_ok H.out t htl).mono ?_;rintro e w' ⟨rfl,rfl⟩
 go_wp2_with fail
 obtain ⟨wz,hwz⟩:∃wz,wz=w.alloc (.cells #[.int .i64 x.c,.int .i64 x.g,.int .i64 x.w,.int .i64 x.v] 182):=⟨_,rfl⟩;rw[←hwz];have hz:Mod noF w wz:=hwz ▸ (Mod.refl noF w).alloc _
 have hx:wz.heap[w.heap.size]?=some (.cells #[.int .i64 x.c,.int .i64 x.g,.int .i64 x.w,.int .i64 x.v] 182):=hwz ▸ heap_alloc_new w _;have hZ:=H.out.keep0 hz;have zm:=hZ.slice;have zb:=hZ.lt (x:=B.bM) (.inl rfl);have zb2:=hZ.lt (x:=B.bW) (.inr (.inr (.inr (.inl rfl))))
 have z3:=hz.cell h3 (fun e=>e);have zf:=free_of_heap hZ.rows t;have HZ:=Lib.hid hZ;have Hz:=Lib.hid hz;have Hx:=Lib.hid hx;clear hwz hZ hz hx hm hb hb2 h3 hf x0 x1 x2 x3
 have hq1:(1:Int)≤(q.length:Int)+1:=by omega
 have hq2:(1:Int)≤((q.length+1:Nat):Int):=by omega
 by_cases hc1:c=1
 ·subst hc1;obtain rfl:q=[]:=List.eq_nil_of_length_eq_zero (by omega);refine wp_region_still_tail 14 (by kernel_rfl) (by kernel_rfl) ?_;simp only[List.take_succ_cons,List.take_zero,List.drop_succ_cons,List.drop_zero,World.drew_eq]
  repeat (first|still_step)
  refine wpStill_nil ?_
  go_wp2_with fail
  have hsr:=H.out.setRow (w2:=wz) (v':=.slice (some ⟨g,s,none⟩) 0 0) (q':=[]) Hvv.out Hz.out.any (by have:=Hrow.out.tail.keep Hz.out (fun _ _ e=>e);simpa[waitRow,flat,wtVals]using this) (fun g' hg'=>.inl hg');have hsr3:=hsr.then0 (Mod.refl noF _).drew
  have hgt:=H.out.lt (x:=B.bW) (.inr (.inr (.inr (.inl rfl))))
  have hx3:(wz.setCell ⟨B.bW,t,none⟩ (.slice (some ⟨g,s,none⟩) 0 0)).drew.heap[w.heap.size]?=some (.cells #[.int .i64 x.c,.int .i64 x.g,.int .i64 x.w,.int .i64 x.v] 182):=(Qh.heap_setCell_other (w:=wz) (k:=w.heap.size) (b:=B.bW) (i:=t) (by omega) _).trans Hx.out
  obtain ⟨w3,hw3⟩:∃w3,w3=(wz.setCell ⟨B.bW,t,none⟩ (.slice (some ⟨g,s,none⟩) 0 0)).drew:=⟨_,rfl⟩;rw[←hw3]at hsr3 hx3 ⊢;clear hw3 hsr;have L3:=HE.out.up hsr3;have hp3:=hsr3.rep.ptr;have hb3:=hsr3.rep.lt (x:=B.bM) (.inl rfl)
  have hne:w.heap.size≠B.gA:=by have:=H.out.lt (x:=B.gA) (.inr (.inr (.inl rfl)));omega
  have y0:w3.cell? ⟨w.heap.size,0,none⟩=some (.int .i64 x.c):=(cell_of_heap hx3 0).trans rfl;have y1:w3.cell? ⟨w.heap.size,1,none⟩=some (.int .i64 x.g):=(cell_of_heap hx3 1).trans rfl;have y2:w3.cell? ⟨w.heap.size,2,none⟩=some (.int .i64 x.w):=(cell_of_heap hx3 2).trans rfl
  have y3:w3.cell? ⟨w.heap.size,3,none⟩=some (.int .i64 x.v):=(cell_of_heap hx3 3).trans rfl;have yb:=lt_of_block hx3;have Hsr3:=Lib.hid hsr3;have HL3:=Lib.hid L3;clear hsr3 L3 hx3 z3 zf zm zb zb2;refine wp_region_still_tail 10 (by kernel_rfl) (by kernel_rfl) ?_
  simp only[List.take_succ_cons,List.take_zero,List.drop_succ_cons,List.drop_zero,World.drew_eq]
  repeat (first|still_step)
  refine wpStill_nil ?_
  go_wp2_with fail
  refine (astore_any (Hsr3.out.rep.arena.keep0 (Mod.refl noF w3).drew) (HL3.out.E.keep (Mod.refl noF w3).drew) hn ht hwo x.c x.g x.w x.v).mono ?_;rintro e w4 ⟨rfl,hm4,A4⟩;have hup:=(Hsr3.out.then0 (Mod.refl noF w3).drew).trans ((Hsr3.out.rep.keep0 (Mod.refl noF w3).drew).cells hm4 A4)
  have Hup:=Lib.hid hup;clear hm4 A4 hup;go_wp2;go_ret;exact ⟨rfl,_,Hup.out⟩
 ·have hc2:¬1=c:=fun e=>hc1 e.symm;refine wp_region_still_tail 14 (by kernel_rfl) (by kernel_rfl) ?_;simp only[List.take_succ_cons,List.take_zero,List.drop_succ_cons,List.drop_zero,World.drew_eq]
  repeat (first|still_step)
  refine wpStill_nil ?_
  go_wp2_with fail
  have hsr:=H.out.setRow (w2:=wz) (v':=.slice (some ⟨g,s+4,none⟩) q.length (c - 1)) (q':=q) Hvv.out Hz.out.any (by have:=Hrow.out.tail.keep Hz.out (fun _ _ e=>e);rw[if_neg hc1]at this;unfold waitRow;rw[flat_wt_start q 0 1];simpa[flat,wtVals]using this) (fun g' hg'=>.inl hg')
  have hsr3:=hsr.then0 (Mod.refl noF _).drew;have hgt:=H.out.lt (x:=B.bW) (.inr (.inr (.inr (.inl rfl))))
  have hx3:(wz.setCell ⟨B.bW,t,none⟩ (.slice (some ⟨g,s+4,none⟩) q.length (c - 1))).drew.heap[w.heap.size]?=some (.cells #[.int .i64 x.c,.int .i64 x.g,.int .i64 x.w,.int .i64 x.v] 182):=(Qh.heap_setCell_other (w:=wz) (k:=w.heap.size) (b:=B.bW) (i:=t) (by omega) _).trans Hx.out
  obtain ⟨w3,hw3⟩:∃w3,w3=(wz.setCell ⟨B.bW,t,none⟩ (.slice (some ⟨g,s+4,none⟩) q.length (c - 1))).drew:=⟨_,rfl⟩;rw[←hw3]at hsr3 hx3 ⊢;clear hw3 hsr;have L3:=HE.out.up hsr3;have hp3:=hsr3.rep.ptr;have hb3:=hsr3.rep.lt (x:=B.bM) (.inl rfl)
  have hne:w.heap.size≠B.gA:=by have:=H.out.lt (x:=B.gA) (.inr (.inr (.inl rfl)));omega
  have y0:w3.cell? ⟨w.heap.size,0,none⟩=some (.int .i64 x.c):=(cell_of_heap hx3 0).trans rfl;have y1:w3.cell? ⟨w.heap.size,1,none⟩=some (.int .i64 x.g):=(cell_of_heap hx3 1).trans rfl;have y2:w3.cell? ⟨w.heap.size,2,none⟩=some (.int .i64 x.w):=(cell_of_heap hx3 2).trans rfl
  have y3:w3.cell? ⟨w.heap.size,3,none⟩=some (.int .i64 x.v):=(cell_of_heap hx3 3).trans rfl;have yb:=lt_of_block hx3;have Hsr3:=Lib.hid hsr3;have HL3:=Lib.hid L3;clear hsr3 L3 hx3 z3 zf zm zb zb2;refine wp_region_still_tail 10 (by kernel_rfl) (by kernel_rfl) ?_
  simp only[List.take_succ_cons,List.take_zero,List.drop_succ_cons,List.drop_zero,World.drew_eq]
  repeat (first|still_step)
  refine wpStill_nil ?_
  go_wp2_with fail
  refine (astore_any (Hsr3.out.rep.arena.keep0 (Mod.refl noF w3).drew) (HL3.out.E.keep (Mod.refl noF w3).drew) hn ht hwo x.c x.g x.w x.v).mono ?_;rintro e w4 ⟨rfl,hm4,A4⟩;have hup:=(Hsr3.out.then0 (Mod.refl noF w3).drew).trans ((Hsr3.out.rep.keep0 (Mod.refl noF w3).drew).cells hm4 A4)
  have Hup:=Lib.hid hup;clear hm4 A4 hup;go_wp2;go_ret;exact ⟨rfl,_,Hup.out⟩
end
section
open Go.RowKit Qs Qh
def okW(q:List Wt):Prop:=∀x∈q,isWord x.v=true∧0≤x.w∧x.w<4
theorem storeE_ok{l:List Cell}{x:Wt}(h:isWord x.v=true∧0≤x.w∧x.w<4):storeE l x.c x.g x.w x.v=if hereIn l x.c x.g then 0 else 7:=by
 obtain ⟨h1,h2,h3⟩:=h;unfold storeE;simp[h1,h2,h3]
theorem drain1_store{l:List Cell}{x:Wt}(h:isWord x.v=true∧0≤x.w∧x.w<4):(drain1 l x).1=if storeE l x.c x.g x.w x.v=0 then setWord l x.c.toNat x.w.toNat x.v else l:=by
 rw[storeE_ok h];unfold drain1;cases hereIn l x.c x.g <;> simp
theorem setWord_keep{l:List Cell}{c j:Nat}{v:Int}{i:Nat}{y:Cell}(h:(setWord l c j v)[i]?=some y):∃y0,l[i]?=some y0∧y.times=y0.times∧y.words.length=y0.words.length∧y.here=y0.here:=by
 unfold setWord at h;rw[List.getElem?_modify]at h
 cases hl:l[i]? with
 |none=>rw[hl]at h;simp at h
 |some y0=>
  rw[hl]at h
  by_cases e:c=i
  ·obtain rfl:=Option.some.inj h;exact ⟨y0,rfl,by simp[e],by simp[e],by simp[e]⟩
  ·obtain rfl:=Option.some.inj h;exact ⟨y0,rfl,by simp[e],by simp[e],by simp[e]⟩
structure CellsOk(l:List Cell):Prop where
 len:l.length≤64
 times:timesOk l
 words:wordsOk l
theorem CellsOk.setWord{l:List Cell}(h:CellsOk l)(c j:Nat)(v:Int):CellsOk (Qs.setWord l c j v):=
 ⟨by unfold Qs.setWord;rw[List.length_modify];exact h.len,fun i y hy=>by obtain ⟨y0,h0,e,_⟩:=setWord_keep hy;rw[e];exact h.times i y0 h0,fun i y hy=>by obtain ⟨y0,h0,_,e,_⟩:=setWord_keep hy;rw[e];exact h.words i y0 h0⟩
theorem CellsOk.drain1{l:List Cell}(h:CellsOk l)(x:Wt):CellsOk (Qs.drain1 l x).1:=by
 unfold Qs.drain1
 split
 ·exact h.setWord _ _ _
 ·exact h
theorem CellsOk.drainAll:∀(q:List Wt) {l:List Cell},CellsOk l→CellsOk (Qs.drainAll l q).1
 |[],_,h=>h
 |x :: q,l,h=>CellsOk.drainAll q (h.drain1 x)
def badN(l:List Cell)(q:List Wt):Int:=if (drainAll l q).2=0 then 0 else 7
theorem badN_snoc(l:List Cell)(pre:List Wt)(x:Wt):badN l (pre++[x])=if hereIn (drainAll l pre).1 x.c x.g then badN l pre else 7:=by
 unfold badN;rw[drainAll_snoc]
 have:(drain1 (drainAll l pre).1 x).2 = !hereIn (drainAll l pre).1 x.c x.g:=by
  unfold drain1;cases hereIn (drainAll l pre).1 x.c x.g <;> rfl
 rw[this];cases hereIn (drainAll l pre).1 x.c x.g <;> simp
variable {w:World}{B:PB}{l:List Cell}{ws:List (List Wt)}{vs:List Value}{a:Nat→Addr}
def PFenced(w:World)(a:Nat→Addr)(B:PB)(l:List Cell)(ws:List (List Wt))(vs:List Value)(t:Nat)(q:List Wt)(k:Nat)(v:Value)(wr:World):Prop:=
 ∃pre r vs',q=pre++r∧r.length=k∧v=errOf' a (badN l pre)∧PUp w B vs wr (drainAll l pre).1 (ws.set t r) vs'
theorem pfence_any{b0:World}(h:PMV w B l ws vs)(E:PLow b0 w a B vs)(C:CellsOk l){t:Nat}{q:List Wt}(hq:ws[t]?=some q)(hn6:ws.length≤6)(hq8:q.length≤8)(hw:okW q) :
  Calls Tryz.prog 134 #[.pointer (some ⟨B.bM,0,none⟩),.int .i64 t] w fun e w'=>e=.returned (errOf' a (badN l q))∧∃vs',PUp w B vs w' (drainAll l q).1 (ws.set t []) vs':=by
 have htl:=(List.getElem?_eq_some_iff.1 hq).1
 have hback:ws.set t q=ws:=by
  obtain ⟨h1,h2⟩:=List.getElem?_eq_some_iff.1 hq;subst h2;exact List.set_getElem_self h1
 have H:=Lib.hid h;have HE:=Lib.hid E;have HC:=Lib.hid C;have Hq:=Lib.hid hq;have Hw:=Lib.hid hw;have Hback:=Lib.hid hback;clear h E C hq hw hback
 go_enter Tryz.func134,Tryz.ntmps134
 go_wp2_with fail
 refine (pthread_ok H.out t htl).mono ?_;rintro e w' ⟨rfl,rfl⟩;go_wp2
 go_loopg [6,7] q.length (fun k v _ wr=>PFenced w a B l ws vs t q k v wr)
 case atStart=>
  refine ⟨[],q,vs,rfl,rfl,rfl,?_⟩;rw[Hback.out];exact PUp.quiet H.out (Mod.refl _ _)
 case round=>
  rename_i wr
  obtain ⟨pre,r,vs',hqr,hrk,rfl,hU⟩:=hrel
  have hwq:(ws.set t r)[t]?=some r:=by simp[htl]
  have hm:=hU.rep.slice;have hb:=hU.rep.lt (x:=B.bM) (.inl rfl);have hb2:=hU.rep.lt (x:=B.bW) (.inr (.inr (.inr (.inl rfl))));obtain ⟨v,ra,c,_,_,k1,k2,k3,_⟩:=hU.rep.rowAt hwq;rw[List.length_set]at hm
  have htn:(t:Int)<(ws.length:Int):=by omega
  have hrl:r.length≤8:=by rw[hqr]at hq8;simp at hq8;omega
  have L1:=HE.out.up hU;have HU:=Lib.hid hU;have HL:=Lib.hid L1;have Hqr:=Lib.hid hqr;have Hwq:=Lib.hid hwq;have Hrk:=Lib.hid hrk;clear hU L1 hqr hwq hrk
  cases r with
  |nil=>
   simp only[List.length_nil]at k3;go_wp2;go_ret
   have hp:q=pre:=by have:=Hqr.out;simpa using this
   rw[hp];exact ⟨rfl,_,HU.out⟩
  |cons x r=>
   have hx:=Hw.out x (by rw[Hqr.out];simp);have hcall:=pdrain_some HU.out.rep HL.out (HC.out.drainAll pre).len (HC.out.drainAll pre).times (HC.out.drainAll pre).words Hwq.out (by rw[List.length_set];exact hn6) (by simp at hrl;omega);unfold pdrainE at hcall;rw[←drain1_store hx,storeE_ok hx]at hcall
   simp only[List.length_cons]at k3
   have d1:decide ((0:Int)<((r.length+1:Nat):Int))=true:=by rw[decide_eq_true_eq];omega
   have d2:decide ((0:Int)<(r.length:Int)+1)=true:=by rw[decide_eq_true_eq];omega
   have hbn:=badN_snoc l pre x;have hda:=drainAll_snoc l pre x;have Hda:=Lib.hid (show (drainAll l (pre++[x])).1=(drain1 (drainAll l pre).1 x).1 by rw[hda]);clear hda
   cases hin:hereIn (drainAll l pre).1 x.c x.g with
   |true=>
    rw[hin,if_pos rfl]at hcall hbn;simp only[errOf',if_true]at hcall;have Hcall:=Lib.hid hcall;have Hbn:=Lib.hid hbn;clear hcall hbn hin
    go_wp2_with fail
    refine Hcall.out.mono ?_;rintro e w5 ⟨rfl,vs5,hU5⟩;have Hu5:=Lib.hid (HU.out.trans hU5);clear hU5 Hcall;go_wp2
    go_roundg r.length
    case measure=>have:=Hrk.out;simp at this;omega
    case rel=>
     refine ⟨pre++[x],r,vs5,by rw[Hqr.out];simp,rfl,by rw[Hbn.out],?_⟩;have:=Hu5.out;rw[Hda.out]
     simpa only[List.set_set]using this
   |false=>
    rw[hin]at hcall hbn;simp only[errOf',errV,if_false,Bool.false_eq_true,show ((7:Int)=0)=False by decide,show (7:Int).toNat - 1=6 from rfl]at hcall hbn;have Hcall:=Lib.hid hcall;have Hbn:=Lib.hid hbn;clear hcall hbn hin
    go_wp2_with fail
    refine Hcall.out.mono ?_;rintro e w5 ⟨rfl,vs5,hU5⟩;have Hu5:=Lib.hid (HU.out.trans hU5);clear hU5 Hcall;go_wp2
    go_roundg r.length
    case measure=>have:=Hrk.out;simp at this;omega
    case rel=>
     refine ⟨pre++[x],r,vs5,by rw[Hqr.out];simp,rfl,by rw[Hbn.out];rfl,?_⟩;have:=Hu5.out;rw[Hda.out]
     simpa only[List.set_set]using this
end
section
open Go.RowKit Qs Qh
theorem fits_reg(c:UInt8)(hc:c=114∨c=115∨c=119)(n:Int)(w:World):Calls Tryz.prog 115 #[.int .u8 (c.toNat:Int),.int .i64 n] w fun e w'=>e=.returned (.bool (fitB c n))∧w=w':=by
 obtain ⟨k,hk,hf⟩:∃k:Int,(c=114∧k=8∨c=115∧k=7∨c=119∧k=4)∧fitB c n=regB n k:=by
  rcases hc with rfl|rfl|rfl
  ·exact ⟨8,by simp,rfl⟩
  ·exact ⟨7,by simp,rfl⟩
  ·exact ⟨4,by simp,rfl⟩
 rw[hf];unfold regB
 by_cases h0:0≤n
 ·have d0:decide (n<0)=false:=by simp;omega
  have d1:decide (0≤n)=true:=by simpa using h0
  rw[d1]
  rcases hk with ⟨rfl,rfl⟩|⟨rfl,rfl⟩|⟨rfl,rfl⟩
  all_goals
   go_enter Tryz.func115,Tryz.ntmps115
   go_wp2;go_ret;exact ⟨rfl,rfl⟩
 ·have d0:decide (n<0)=true:=by simp;omega
  have d1:decide (0≤n)=false:=by simpa using h0
  rw[d1]
  rcases hk with ⟨rfl,rfl⟩|⟨rfl,rfl⟩|⟨rfl,rfl⟩
  all_goals
   go_enter Tryz.func115,Tryz.ntmps115
   go_wp2;go_ret;exact ⟨rfl,rfl⟩
theorem fits_val(n:Int)(w:World):Calls Tryz.prog 115 #[.int .u8 118,.int .i64 n] w fun e w'=>e=.returned (.bool (isWord n))∧w=w':=by
 go_enter Tryz.func115,Tryz.ntmps115
 go_wp2_with fail
 refine (right_any n w).mono ?_;rintro e w' ⟨rfl,rfl⟩;go_wp2;go_ret;exact ⟨rfl,rfl⟩
theorem fits_any(c:UInt8)(hc:c=114∨c=115∨c=118∨c=119)(n:Int)(w:World):Calls Tryz.prog 115 #[.int .u8 (c.toNat:Int),.int .i64 n] w fun e w'=>e=.returned (.bool (fitB c n))∧w=w':=by
 rcases hc with rfl|rfl|rfl|rfl
 ·exact fits_reg 114 (by simp) n w
 ·exact fits_reg 115 (by simp) n w
 ·exact fits_val n w
 ·exact fits_reg 119 (by simp) n w
end
section
open Go.RowKit Qs Qh
variable {w w':World}{a:Nat→Addr}
def errC(a:Nat→Addr)(e:Int):Value:=if e=0 then .nilIface else errV a (e.toNat - 1)
def riV(x:RI):Value:=.agg #[.string x.op,.int .i64 x.A,.int .i64 x.B,.int .i64 x.C,.string x.to]
theorem nK_facts(k:Nat):(nK k).length≤3∧∀c∈nK k,c=114∨c=115∨c=118∨c=119:=by
 by_cases h:k<21
 ·have key:∀k,k<21→((nK k).length≤3∧∀c∈nK k,c=114∨c=115∨c=118∨c=119):=by decide
  exact key k h
 ·have:nK k=[]:=by
   unfold nK
   split <;> first|omega|rfl
  rw[this];simp
theorem one_no{op to:ByteArray}(A B C:Int)(E:ErrsAt w a)(hk:opIx op=none) :
  Calls Tryz.prog 79 #[riV ⟨op,A,B,C,to⟩] w fun e w'=>e=.returned (errV a 2)∧Mod noF w w':=by
 have HE:=Lib.hid E;have Hk:=Lib.hid hk;unfold riV;clear E hk
 go_enter Tryz.func79,Tryz.ntmps79
 go_wp2_with fail
 refine (forms_no Hk.out _).mono ?_;rintro e w1 ⟨rfl,hm1⟩;unfold formN;have hm:=((Mod.refl noF w).alloc (.cells #[.string op,.int .i64 A,.int .i64 B,.int .i64 C,.string to] 73)).trans0 hm1
 have hv:=((HE.out.keep hm).keep ((Mod.refl noF w1).alloc (.cells #[.string ⟨#[]⟩,.bool false] 199))).v2;have Hm:=Lib.hid hm;clear hm hm1;go_wp2;go_ret;exact ⟨rfl,by repeat (first|exact Hm.out|refine Mod.alloc ?_ _|refine Mod.drew ?_|refine Mod.drewN ?_ _)⟩
theorem slice3(b n r:Nat)(hn:n+r=3):∃o,(0<r→o=n)∧∀w,(Go.Instr.sliceAt 202 (.pointer (some ⟨b,0,none⟩)) (some (.int .i64 n)) none none).run Tryz.prog w=.ok (.slice (some ⟨b,o,none⟩) r r) w:=by
 rcases (by omega:n=0∧r=3∨n=1∧r=2∨n=2∧r=1∨n=3∧r=0)with ⟨rfl,rfl⟩|⟨rfl,rfl⟩|⟨rfl,rfl⟩|⟨rfl,rfl⟩
 ·exact ⟨0,fun _=>rfl,fun w=>by kernel_rfl⟩
 ·exact ⟨1,fun _=>rfl,fun w=>by kernel_rfl⟩
 ·exact ⟨2,fun _=>rfl,fun w=>by kernel_rfl⟩
 ·exact ⟨0,fun h=>absurd h (by omega),fun w=>by kernel_rfl⟩
theorem rest_false{k:Nat}{A B C:Int}(h:∀(j:Nat) n,(nK k).length≤j→[A,B,C][j]?=some n→n=0):restB k A B C=false:=by
 unfold restB;rw[List.any_eq_false];intro n hn;obtain ⟨i,hi⟩:=List.getElem?_of_mem hn;rw[List.getElem?_drop]at hi;have:=h _ n (by omega) hi;simp[n0,this]
theorem rest_true{k:Nat}{A B C:Int}{j:Nat}{n:Int}(hj:(nK k).length≤j)(hn:[A,B,C][j]?=some n)(h:¬n=0):restB k A B C=true:=by
 unfold restB;rw[List.any_eq_true];refine ⟨n,List.mem_of_getElem? (i:=j - (nK k).length) (by rw[List.getElem?_drop,show (nK k).length+(j - (nK k).length)=j by omega];exact hn),by simp[n0,h]⟩
theorem bad_false{k:Nat}{A B C:Int}(h:∀(j:Nat) c n,(nK k)[j]?=some c→[A,B,C][j]?=some n→fitB c n=true):badB k A B C=false:=by
 unfold badB;rw[List.any_eq_false];intro p hp;obtain ⟨i,hi⟩:=List.getElem?_of_mem hp;obtain ⟨c,n⟩:=p;rw[List.getElem?_zip_eq_some]at hi;simp[h i c n hi.1 hi.2]
theorem bad_true{k:Nat}{A B C:Int}{j:Nat}{c:UInt8}{n:Int}(hc:(nK k)[j]?=some c)(hn:[A,B,C][j]?=some n)(h:fitB c n=false):badB k A B C=true:=by
 unfold badB;rw[List.any_eq_true];exact ⟨(c,n),List.mem_of_getElem? (i:=j) (List.getElem?_zip_eq_some.2 ⟨hc,hn⟩),by simp[h]⟩
theorem one_some{k:Nat}(hk:k<21){to:ByteArray}(hto:to.size≤maxLen)(A B C:Int)(E:ErrsAt w a) :
  Calls Tryz.prog 79 #[riV ⟨opStr k,A,B,C,to⟩] w fun e w'=>e=.returned (errC a (oneE ⟨opStr k,A,B,C,to⟩))∧Mod noF w w':=by
 have hone:oneE ⟨opStr k,A,B,C,to⟩=if !lK k && !to.toList.isEmpty then 3 else if restB k A B C then 3 else if badB k A B C then 2 else if lK k && !nameB to.toList then 4 else 0:=by
  unfold oneE;simp only;rw[opIx_str hk]
 rw[hone];have hf:=fun W=>forms_ok k hk W;obtain ⟨hn3,hnk⟩:=nK_facts k;have Hrf:=Lib.hid (@rest_false k A B C);have Hrt:=Lib.hid (fun (j:Nat) (n:Int)=>@rest_true k A B C j n);have Hbf:=Lib.hid (@bad_false k A B C);have Hbt:=Lib.hid (fun (j:Nat) (c:UInt8) (n:Int)=>@bad_true k A B C j c n)
 unfold formV at hf;generalize hop:opStr k=op at *;generalize restB k A B C=rb at *;generalize badB k A B C=bb at *;generalize nK k=ns at *;generalize lK k=lb at *;obtain ⟨s,hs⟩:∃s:ByteArray,s=⟨ns.toArray⟩:=⟨_,rfl⟩
 have hsn:s.data.toList=ns:=by rw[hs]
 have hsl:s.size=ns.length:=by rw[←hsn];exact (bytes_len s).symm
 rw[←hs]at hf;rw[←hsn]at Hbf Hbt hnk;rw[←hsl]at Hrf Hrt hn3;clear hs hsn hsl;have HE:=Lib.hid E;have Hf:=Lib.hid hf;have Hnk:=Lib.hid hnk;unfold riV;clear E hf hone hop hk hnk;simp only
 have e1:(to.toList.isEmpty)=(to.toList==[]):=by cases to.toList <;> rfl
 cases hb : !lb && !to.toList.isEmpty with
 |true=>
  obtain rfl:lb=false:=by cases lb <;> simp_all
  have e2:to.toList.isEmpty=false:=by simpa using hb
  have e3:(to.toList==[])=false:=by rw[←e1];exact e2
  have e4:¬to.toList=[]:=by simpa using e3
  clear e1 hb
  go_enter Tryz.func79,Tryz.ntmps79
  go_wp2_with fail
  refine (Hf.out _).mono ?_;rintro e w1 ⟨rfl,hm1⟩;have hm:=((Mod.refl noF w).alloc (.cells #[.string op,.int .i64 A,.int .i64 B,.int .i64 C,.string to] 73)).trans0 hm1
  have hv:=((HE.out.keep hm).keep ((Mod.refl noF w1).alloc (.cells #[.string s,.bool false] 199))).v2;have b4:w1.cell? ⟨w.heap.size,4,none⟩=some (.string to):=hm1.cell (by simp) (fun e=>e)
  have hlt:w.heap.size<w1.heap.size:=by have:=hm1.size;simp at this;omega
  have Hm:=Lib.hid hm;clear hm hm1;go_wp2;go_ret;exact ⟨rfl,by repeat (first|exact Hm.out|refine Mod.alloc ?_ _|refine Mod.drew ?_|refine Mod.drewN ?_ _)⟩
 |false=>
  have HB:=Lib.hid hb
  have e2:lb=false→(to.toList==[])=true:=fun h=>by rw[←e1];simpa[h]using hb
  clear hb
  go_enter Tryz.func79,Tryz.ntmps79
  go_wp2_with fail
  refine (Hf.out _).mono ?_;rintro e w1 ⟨rfl,hm1⟩;have hm:=((Mod.refl noF w).alloc (.cells #[.string op,.int .i64 A,.int .i64 B,.int .i64 C,.string to] 73)).trans0 hm1;have b1:w1.cell? ⟨w.heap.size,1,none⟩=some (.int .i64 A):=hm1.cell (by simp) (fun e=>e)
  have b2:w1.cell? ⟨w.heap.size,2,none⟩=some (.int .i64 B):=hm1.cell (by simp) (fun e=>e);have b3:w1.cell? ⟨w.heap.size,3,none⟩=some (.int .i64 C):=hm1.cell (by simp) (fun e=>e);have b4:w1.cell? ⟨w.heap.size,4,none⟩=some (.string to):=hm1.cell (by simp) (fun e=>e)
  have hlt:w.heap.size<w1.heap.size:=by have:=hm1.size;simp at this;omega
  have Hm:=Lib.hid hm;clear hm hm1;obtain ⟨w2,hw2⟩:∃w2,w2=(w1.alloc (.cells #[.string s,.bool lb] 199)).alloc (.cells #[.int .i64 A,.int .i64 B,.int .i64 C] 202):=⟨_,rfl⟩
  have hm2:Mod noF w w2:=by rw[hw2];exact (Hm.out.alloc _).alloc _
  have f0:w2.cell? ⟨w1.heap.size,0,none⟩=some (.string s):=by rw[hw2];simp
  have f1:w2.cell? ⟨w1.heap.size,1,none⟩=some (.bool lb):=by rw[hw2];simp
  have l0:w2.cell? ⟨w1.heap.size+1,0,none⟩=some (.int .i64 A):=by rw[hw2];simp
  have l1:w2.cell? ⟨w1.heap.size+1,1,none⟩=some (.int .i64 B):=by rw[hw2];simp
  have l2:w2.cell? ⟨w1.heap.size+1,2,none⟩=some (.int .i64 C):=by rw[hw2];simp
  have g4:w2.cell? ⟨w.heap.size,4,none⟩=some (.string to):=by rw[hw2];exact (((Mod.refl noF w1).alloc _).alloc _).cell b4 (fun e=>e)
  have E2:=HE.out.keep hm2;have v1:=E2.v1;have v2:=E2.v2;have v3:=E2.v3;have Hm2:=Lib.hid hm2;clear hm2 E2
  have hl:∀(q:Nat),q<3→∃n,[A,B,C][q]?=some n∧w2.cell? ⟨w1.heap.size+1,q,none⟩=some (.int .i64 n):=fun q hq=>by
   rcases (by omega:q=0∨q=1∨q=2)with rfl|rfl|rfl
   ·exact ⟨A,rfl,l0⟩
   ·exact ⟨B,rfl,l1⟩
   ·exact ⟨C,rfl,l2⟩
  have Hl:=Lib.hid hl;clear hl l0 l1 l2;obtain ⟨n,hn,hsz⟩:∃n:Nat,n≤3∧s.size=n:=⟨_,hn3,rfl⟩;rw[hsz]at Hrf Hrt hn3;have Hsz:=Lib.hid hsz;clear hsz hn3
  cases lb with
  |true=>
   clear e2 e1 HB;have hsz:=Hsz.out;obtain ⟨r,hnr⟩:∃r,n+r=3:=⟨3 - n,by omega⟩;obtain ⟨o,ho,hso⟩:=slice3 (w1.heap.size+1) n r hnr;go_wp2;rw[←hw2];clear hw2 hso b1 b2 b3 b4
   go_loop [40,7] (fun i _=>∃j:Nat,j≤r∧i=.int .i64 j∧∀(q:Nat) x,n≤q→q<n+j→[A,B,C][q]?=some x→x=0) (fun i _=>r - (intOf i).toNat)
   case atStart=>exact ⟨0,Nat.zero_le _,rfl,fun q x h1 h2=>absurd h2 (by omega)⟩
   case round=>
    obtain ⟨j,hj,rfl,hz⟩:=hrel;have Hz:=Lib.hid hz;clear hz
    by_cases hlt2:j<r
    ·obtain ⟨x,hx,hc⟩:=Hl.out (n+j) (by omega);obtain rfl:o=n:=ho (by omega)
     have hd:decide ((j:Int)<(r:Int))=true:=by simp;omega
     have hji:(j:Int)<(r:Int):=by omega
     by_cases h0:x=0
     ·subst h0;go_wp2
      go_round
      case rel=>exact ⟨j+1,by omega,by go_num,fun q y h1 h2 h3=>by
       by_cases e:q=o+j
       ·subst e;rw[hx]at h3;exact (Option.some.inj h3).symm
       ·exact Hz.out q y h1 (by omega) h3⟩
      case measure=>simp[intOf];omega
     ·have hd0:(x==0)=false:=by simpa using h0
      have hd1:decide (x=0)=false:=by simpa using h0
      have hrb:=Hrt.out (o+j) x (by omega) hx h0;clear Hz;go_wp2;go_ret;exact ⟨rfl,Hm2.out⟩
    ·have hd:decide ((j:Int)<(r:Int))=false:=by simp;omega
     have hrb:=Hrf.out fun q y h1 h2=>Hz.out q y h1 (by have:=(List.getElem?_eq_some_iff.1 h2).1;simp at this;omega) h2;clear Hz;go_wp2
     go_loopw [51,8] (fun i _ wr=>∃j:Nat,j≤n∧i=.int .i64 j∧Mod noF w2 wr∧∀(q:Nat) c x,q<j→s.data.toList[q]?=some c→[A,B,C][q]?=some x→fitB c x=true) (fun i _ _=>n - (intOf i).toNat)
     case atStart=>exact ⟨0,Nat.zero_le _,rfl,Mod.refl _ _,fun q c x h=>absurd h (by omega)⟩
     case round=>
      generalize wr=w3 at *;obtain ⟨j,hj,rfl,hm3,hz⟩:=hrel;have Hz:=Lib.hid hz;clear hz
      by_cases hlt3:j<n
      ·obtain ⟨x,hx,hc⟩:=Hl.out j (by omega)
       have hd:decide ((j:Int)<(n:Int))=true:=by simp;omega
       have hji:(j:Int)<(n:Int):=by omega
       have hjs:j<s.size:=by omega
       have c0:=hm3.cell f0 (fun e=>e);have c1:=hm3.cell hc (fun e=>e);have gj:=bytes_get s j hjs
       have hfit:∀N,Calls Tryz.prog 115 #[.int .u8 (s[j].toNat:Int),.int .i64 x] (w3.drewN N) fun e w'=>e=.returned (.bool (fitB s[j] x))∧w'=w3.drewN N:=fun N=>(fits_any (s[j]) (Hnk.out _ (List.mem_of_getElem? gj)) x _).mono fun e w' h=>⟨h.1,h.2.symm⟩;have Hfit:=Lib.hid hfit
       have Hgj:=Lib.hid gj;have Hm3:=Lib.hid hm3;clear hfit hm3 gj
       cases hfb:fitB s[j] x with
       |true=>
        rw[hfb]at Hfit;go_wp2
        go_quiet (first|(go_at_call 115;with_reducible exact Calls.quiet_of_same (w:=w3) (v:=.bool true) (Hfit.out _)))
        go_wp2;refine ⟨⟨j+1,by omega,by go_num,Hm3.out.drewN _,fun q c y h1 h2 h3=>?_⟩,by simp[intOf];omega⟩
        by_cases e:q=j
        ·subst e;rw[Hgj.out]at h2;cases h2;rw[hx]at h3;cases h3;exact hfb
        ·exact Hz.out q c y (by omega) h2 h3
       |false=>
        rw[hfb]at Hfit;have hbb:=Hbt.out j _ x Hgj.out hx hfb;clear Hz;go_wp2
        go_quiet (first|(go_at_call 115;with_reducible exact Calls.quiet_of_same (w:=w3) (v:=.bool false) (Hfit.out _)))
        have v1q:=fun N=>(Hm3.out.drewN N).cell v1 (fun e=>e);go_wp2;go_ret;exact ⟨rfl,Hm2.out.trans0 (Hm3.out.drewN _)⟩
      ·have hd:decide ((j:Int)<(n:Int))=false:=by simp;omega
       have hbb:=Hbf.out fun q c x h1 h2=>Hz.out q c x (by have:=(List.getElem?_eq_some_iff.1 h1).1;rw[bytes_len]at this;omega) h1 h2;have c1:=hm3.cell f1 (fun e=>e);have c4:=hm3.cell g4 (fun e=>e);have c3:=hm3.cell v3 (fun e=>e);have Hm3:=Lib.hid hm3;clear Hz hm3
       cases hnb:nameB to.toList with
       |true=>
        go_wp2_with fail
        refine (name_any to _ hto).mono ?_;rintro e w' ⟨rfl,rfl⟩;rw[←Lib.toList_data,hnb];go_wp2;go_ret;exact ⟨rfl,Hm2.out.trans0 Hm3.out⟩
       |false=>
        go_wp2_with fail
        refine (name_any to _ hto).mono ?_;rintro e w' ⟨rfl,rfl⟩;rw[←Lib.toList_data,hnb];go_wp2;go_ret;exact ⟨rfl,Hm2.out.trans0 Hm3.out⟩
  |false=>
   have e3:=e2 rfl
   have e4:to.toList=[]:=by simpa using e3
   have e5:to.toList.isEmpty=true:=by rw[e4];rfl
   clear e2 e1 HB;have hsz:=Hsz.out;obtain ⟨r,hnr⟩:∃r,n+r=3:=⟨3 - n,by omega⟩;obtain ⟨o,ho,hso⟩:=slice3 (w1.heap.size+1) n r hnr;go_wp2;rw[←hw2];clear hw2 hso b1 b2 b3 b4
   go_loop [40,7] (fun i _=>∃j:Nat,j≤r∧i=.int .i64 j∧∀(q:Nat) x,n≤q→q<n+j→[A,B,C][q]?=some x→x=0) (fun i _=>r - (intOf i).toNat)
   case atStart=>exact ⟨0,Nat.zero_le _,rfl,fun q x h1 h2=>absurd h2 (by omega)⟩
   case round=>
    obtain ⟨j,hj,rfl,hz⟩:=hrel;have Hz:=Lib.hid hz;clear hz
    by_cases hlt2:j<r
    ·obtain ⟨x,hx,hc⟩:=Hl.out (n+j) (by omega);obtain rfl:o=n:=ho (by omega)
     have hd:decide ((j:Int)<(r:Int))=true:=by simp;omega
     have hji:(j:Int)<(r:Int):=by omega
     by_cases h0:x=0
     ·subst h0;go_wp2
      go_round
      case rel=>exact ⟨j+1,by omega,by go_num,fun q y h1 h2 h3=>by
       by_cases e:q=o+j
       ·subst e;rw[hx]at h3;exact (Option.some.inj h3).symm
       ·exact Hz.out q y h1 (by omega) h3⟩
      case measure=>simp[intOf];omega
     ·have hd0:(x==0)=false:=by simpa using h0
      have hd1:decide (x=0)=false:=by simpa using h0
      have hrb:=Hrt.out (o+j) x (by omega) hx h0;clear Hz;go_wp2;go_ret;exact ⟨rfl,Hm2.out⟩
    ·have hd:decide ((j:Int)<(r:Int))=false:=by simp;omega
     have hrb:=Hrf.out fun q y h1 h2=>Hz.out q y h1 (by have:=(List.getElem?_eq_some_iff.1 h2).1;simp at this;omega) h2;clear Hz;go_wp2
     go_loopw [51,8] (fun i _ wr=>∃j:Nat,j≤n∧i=.int .i64 j∧Mod noF w2 wr∧∀(q:Nat) c x,q<j→s.data.toList[q]?=some c→[A,B,C][q]?=some x→fitB c x=true) (fun i _ _=>n - (intOf i).toNat)
     case atStart=>exact ⟨0,Nat.zero_le _,rfl,Mod.refl _ _,fun q c x h=>absurd h (by omega)⟩
     case round=>
      generalize wr=w3 at *;obtain ⟨j,hj,rfl,hm3,hz⟩:=hrel;have Hz:=Lib.hid hz;clear hz
      by_cases hlt3:j<n
      ·obtain ⟨x,hx,hc⟩:=Hl.out j (by omega)
       have hd:decide ((j:Int)<(n:Int))=true:=by simp;omega
       have hji:(j:Int)<(n:Int):=by omega
       have hjs:j<s.size:=by omega
       have c0:=hm3.cell f0 (fun e=>e);have c1:=hm3.cell hc (fun e=>e);have gj:=bytes_get s j hjs
       have hfit:∀N,Calls Tryz.prog 115 #[.int .u8 (s[j].toNat:Int),.int .i64 x] (w3.drewN N) fun e w'=>e=.returned (.bool (fitB s[j] x))∧w'=w3.drewN N:=fun N=>(fits_any (s[j]) (Hnk.out _ (List.mem_of_getElem? gj)) x _).mono fun e w' h=>⟨h.1,h.2.symm⟩;have Hfit:=Lib.hid hfit
       have Hgj:=Lib.hid gj;have Hm3:=Lib.hid hm3;clear hfit hm3 gj
       cases hfb:fitB s[j] x with
       |true=>
        rw[hfb]at Hfit;go_wp2
        go_quiet (first|(go_at_call 115;with_reducible exact Calls.quiet_of_same (w:=w3) (v:=.bool true) (Hfit.out _)))
        go_wp2;refine ⟨⟨j+1,by omega,by go_num,Hm3.out.drewN _,fun q c y h1 h2 h3=>?_⟩,by simp[intOf];omega⟩
        by_cases e:q=j
        ·subst e;rw[Hgj.out]at h2;cases h2;rw[hx]at h3;cases h3;exact hfb
        ·exact Hz.out q c y (by omega) h2 h3
       |false=>
        rw[hfb]at Hfit;have hbb:=Hbt.out j _ x Hgj.out hx hfb;clear Hz;go_wp2
        go_quiet (first|(go_at_call 115;with_reducible exact Calls.quiet_of_same (w:=w3) (v:=.bool false) (Hfit.out _)))
        have v1q:=fun N=>(Hm3.out.drewN N).cell v1 (fun e=>e);go_wp2;go_ret;exact ⟨rfl,Hm2.out.trans0 (Hm3.out.drewN _)⟩
      ·have hd:decide ((j:Int)<(n:Int))=false:=by simp;omega
       have hbb:=Hbf.out fun q c x h1 h2=>Hz.out q c x (by have:=(List.getElem?_eq_some_iff.1 h1).1;rw[bytes_len]at this;omega) h1 h2;have c1:=hm3.cell f1 (fun e=>e);have c4:=hm3.cell g4 (fun e=>e);have c3:=hm3.cell v3 (fun e=>e);have Hm3:=Lib.hid hm3;clear Hz hm3;go_wp2;go_ret
       exact ⟨rfl,Hm2.out.trans0 Hm3.out⟩
theorem one_any(x:RI)(hto:x.to.size≤maxLen)(E:ErrsAt w a) :
  Calls Tryz.prog 79 #[riV x] w fun e w'=>e=.returned (errC a (oneE x))∧Mod noF w w':=by
 obtain ⟨op,A,B,C,to⟩:=x
 cases hk:opIx op with
 |none=>
  have:oneE ⟨op,A,B,C,to⟩=3:=by unfold oneE;simp only;rw[hk]
  rw[this];exact one_no A B C E hk
 |some k=>
  obtain ⟨h1,rfl⟩:=opIx_some hk;exact one_some h1 hto A B C E
end
section
open Go.RowKit Qs Qh
variable {w w':World}{a:Nat→Addr}{v:Value}{l:List RI}
abbrev HN:=Nat
structure RCode(w:World)(v:Value)(l:List RI):Prop where
 at_:∃a c,v=.slice a l.length c∧∀(i:Nat) x,l[i]?=some x→∃b off,a=some ⟨b,off,none⟩∧b<w.heap.size∧w.cell? ⟨b,off+i*5,none⟩=some (.string x.op)∧w.cell? ⟨b,off+i*5+1,none⟩=some (.int .i64 x.A)∧
  w.cell? ⟨b,off+i*5+2,none⟩=some (.int .i64 x.B)∧w.cell? ⟨b,off+i*5+3,none⟩=some (.int .i64 x.C)∧w.cell? ⟨b,off+i*5+4,none⟩=some (.string x.to)
 ok:∀x∈l,x.to.size≤maxLen
theorem RCode.keep(h:RCode w v l)(hM:Mod noF w w'):RCode w' v l:=by
 obtain ⟨⟨a,c,e,hx⟩,ho⟩:=h;refine ⟨⟨a,c,e,fun i x hi=>?_⟩,ho⟩;obtain ⟨b,off,e1,hb,h0,h1,h2,h3,h4⟩:=hx i x hi;exact ⟨b,off,e1,Nat.lt_of_lt_of_le hb hM.size,hM.cell h0 (fun e=>e),hM.cell h1 (fun e=>e),hM.cell h2 (fun e=>e),hM.cell h3 (fun e=>e),hM.cell h4 (fun e=>e)⟩
open Go.WideMaps in
theorem keyOfS{s:ByteArray}(hs:s.size≤maxLen):keyOf Tryz.prog 9 (.string s)=some (.string s.data.toList):=keyOf_string_mk Tryz.underlying9 hs
theorem zeroInt(w:World):(zeroValue 3).run Tryz.prog w=.ok (.int .i64 0) w:=by kernel_rfl
def keyB(to:ByteArray):Lit:=.string to.data.toList
theorem keyB_inj{s t:ByteArray}(h:keyB s=keyB t):s=t:=by
 unfold keyB at h;simp only[Lit.string.injEq]at h;exact ByteArray.ext (Array.toList_inj.1 h)
def RLab(w:World)(b:Nat)(l:List RI):Prop:=
 ∃(n:Nat) (D:DataW HN),n≤l.length∧w.ownsMap Tryz.prog 9 (plainElem Tryz.prog 3) b n D∧
  ∀to,Maps.has D (keyB to)=(labR to l 0).isSome∧D.atKey (keyB to) (.lit (.int .i64 0))=.lit (.int .i64 (((labR to l 0).getD 0:Nat):Int))
theorem rmap_heap{n b:Nat}{D:DataW HN}{k:TypeId}{R:Value→Option (DataW HN × List MemPlace)}(h:w.ownsMap Tryz.prog k R b n D)(hb:w'.heap[b]?=w.heap[b]?):w'.ownsMap Tryz.prog k R b n D:=by
 obtain ⟨es,clock,h1,h2,h3,h4⟩:=h;exact ⟨es,clock,hb.trans h1,h2,h3,h4⟩
theorem RLab.lt{b:Nat}(h:RLab w b l):b<w.heap.size:=by
 obtain ⟨n,D,h0,h1,h2⟩:=h;exact h1.lt
theorem RLab.keep{F:Nat→Prop}{b:Nat}(h:RLab w b l)(hM:Mod F w w')(hF:¬F b):RLab w' b l:=by
 obtain ⟨n,D,h0,h1,h2⟩:=h;exact ⟨n,D,h0,rmap_heap h1 (hM.block b h1.lt hF),h2⟩
theorem labR_snoc(to:ByteArray)(x:RI):∀(l:List RI) (s:Nat),labR to (l++[x]) s=match labR to l s with|some k=>some k|none=>if x.op=opStr 17∧x.to=to then some (s+l.length)else none
 |[],s=>by simp[labR]
 |y :: l,s=>by
  rw[List.cons_append];unfold labR
  by_cases h:y.op=opStr 17∧y.to=to
  ·rw[if_pos h,if_pos h]
  ·rw[if_neg h,if_neg h,labR_snoc to x l (s+1),List.length_cons,show s+1+l.length=s+(l.length+1) by omega]
theorem RLab.same{b:Nat}{x:RI}(h:RLab w b l)(hx:x.op=opStr 17→(labR x.to l 0).isSome=true):RLab w b (l++[x]):=by
 obtain ⟨n,D,h0,h1,h2⟩:=h;refine ⟨n,D,by rw[List.length_append];omega,h1,fun to=>?_⟩
 have:labR to (l++[x]) 0=labR to l 0:=by
  rw[labR_snoc]
  cases e:labR to l 0 with
  |some k=>rfl
  |none=>
   simp only;rw[if_neg];rintro ⟨g1,g2⟩;have:=hx g1;rw[g2,e]at this;cases this
 rw[this];exact h2 to
theorem RLab.put{b n:Nat}{x:RI}{D:DataW HN}(h0:n≤l.length)(h1:w'.ownsMap Tryz.prog 9 (plainElem Tryz.prog 3) b (n+1) (D.put (keyB x.to) (.lit (.int .i64 (l.length:Int)))))(hm:Go.Maps.IsMap D)
  (h2:∀to,Maps.has D (keyB to)=(labR to l 0).isSome∧D.atKey (keyB to) (.lit (.int .i64 0))=.lit (.int .i64 (((labR to l 0).getD 0:Nat):Int))) (hx:x.op=opStr 17) (hn:labR x.to l 0=none):RLab w' b (l++[x]):=by
 refine ⟨n+1,_,by rw[List.length_append];simp;omega,h1,fun to=>?_⟩;rw[labR_snoc]
 by_cases e:to=x.to
 ·subst e;rw[hn];simp only;rw[if_pos ⟨hx,trivial⟩,Maps.has_put_same hm (by trivial),Maps.atKey_put_same hm (by trivial),Nat.zero_add];exact ⟨rfl,rfl⟩
 ·have hk:keyB to≠keyB x.to:=fun g=>e (keyB_inj g);rw[Maps.has_put_other hk,Maps.atKey_put_other hk,(h2 to).1,(h2 to).2]
  cases labR to l 0 with
  |some k=>exact ⟨rfl,rfl⟩
  |none=>
   simp only;rw[if_neg fun g=>e g.2.symm];exact ⟨rfl,rfl⟩
theorem labels_any(h:RCode w v l)(hl:l.length≤1000000) :
  Calls Tryz.prog 40 #[v] w fun e w'=>e=.returned (.map (some w.heap.size))∧Mod noF w w'∧RLab w' w.heap.size l:=by
 have H:=Lib.hid h;obtain ⟨⟨sa,sc,rfl,-⟩,-⟩:=h;have K:=Go.Maps.string_keyed (P:=Tryz.prog) Tryz.underlying9;have hmm:=@run_makeMap Tryz.prog
 go_enter Tryz.func40,Tryz.ntmps40
 go_wp2
 go_loopw [11,4,5,6,7] (fun i _ _ _ _ wr=>∃k:Nat,k≤l.length∧i=.int .i64 k∧Mod noF w wr∧RLab wr w.heap.size (l.take k)) (fun i _ _ _ _ _=>l.length - (intOf i).toNat)
 case atStart=>
  refine ⟨0,Nat.zero_le _,rfl,(Mod.refl _ _).alloc _,0,.map [],Nat.zero_le _,World.ownsMap_made w _ _ _,fun to=>⟨rfl,rfl⟩⟩
 case round=>
  generalize wr=w2 at *;obtain ⟨k,hk,rfl,hm,hR⟩:=hrel;have Hm:=Lib.hid hm;have HR:=Lib.hid hR;clear hm hR
  by_cases hlt:k<l.length
  ·have hd:decide ((k:Int)<(l.length:Int))=true:=by simp;omega
   have hki:(k:Int)<(l.length:Int):=by omega
   obtain ⟨x,hx⟩:∃x,l[k]?=some x:=⟨_,List.getElem?_eq_getElem hlt⟩;obtain ⟨⟨a',c',e',hxx⟩,hok⟩:=H.out.keep Hm.out;cases e';obtain ⟨b,off,rfl,hb,c0,c1,c2,c3,c4⟩:=hxx k x hx;have hto:=hok x (List.mem_of_getElem? hx);have hkey:keyOf Tryz.prog 9 (.string x.to)=some (keyB x.to):=keyOfS hto
   have htk:l.take (k+1)=l.take k++[x]:=by rw[List.take_add_one,hx];rfl
   have Htk:=Lib.hid htk;clear hxx hok hx htk;obtain ⟨n,D,hn,hown,hD⟩:=HR.out;obtain ⟨hD1,hD2⟩:=hD x.to;have Hown:=Lib.hid hown;have HD:=Lib.hid hD
   have hn2:n<maxLen:=by unfold maxLen;rw[List.length_take]at hn;omega
   have Hn:=Lib.hid hn;obtain ⟨w3,hw3⟩:∃w3,w3=w2.alloc (.cells #[.string x.op,.int .i64 x.A,.int .i64 x.B,.int .i64 x.C,.string x.to] 73):=⟨_,rfl⟩
   have hown3:w3.ownsMap Tryz.prog 9 (plainElem Tryz.prog 3) w.heap.size n D:=by rw[hw3];exact hown.alloc _
   have hm3:Mod noF w w3:=by rw[hw3];exact Hm.out.alloc _
   have d0:w3.cell? ⟨w2.heap.size,0,none⟩=some (.string x.op):=by rw[hw3];simp
   have d4:w3.cell? ⟨w2.heap.size,4,none⟩=some (.string x.to):=by rw[hw3];simp
   have hsz:=Hm.out.size;have Hown3:=Lib.hid hown3;have Hm3:=Lib.hid hm3
   have hlk:(l.take k).length=k:=by rw[List.length_take];omega
   have hmap:Go.Maps.IsMap D:=hown.isMap;clear hown hn hown3 hm3 hD
   by_cases hop:x.op=opStr 17
   ·have hop2:x.op=⟨#[108,97,98,101,108]⟩:=hop;rw[hop2]at c0 d0 hw3
    cases hlb:labR x.to (l.take k) 0 with
    |none=>
     rw[hlb]at hD1;have hD1':Maps.has D (keyB x.to)=false:=hD1;clear hD1 hop2
     have wk:(Lit.int .i64 (k:Int)).wf=true:=by simp only[Lit.wf,Bool.and_eq_true,decide_eq_true_eq];show (-9223372036854775808:Int)≤(k:Int)∧(k:Int)≤9223372036854775807;omega
     go_wp2_with (first
      |(at_lookup;rw[←hw3];refine wpList_lookup_own_ok_int _ rfl _ _ 95 rfl 9 3 .i64 K Tryz.underlying95 Tryz.underlying3 (zeroInt _) w.heap.size n D rfl Hown3.out (.string x.to) (keyB x.to) rfl hkey ?_;intro c hat hwc)
      |(at_mapUpdate;rw[←hw3];refine wpList_mapUpdate_in _ rfl _ _ _ 95 rfl 9 3 K Tryz.underlying95 (plainElem Tryz.prog 3) w.heap.size n D rfl Hown3.out hn2 _ _ (keyB x.to) rfl rfl hkey (.lit (.int .i64 (k:Int))) [] (plainElem_int Tryz.underlying3 wk) ?_;intro w4 hown4 hturn4))
     have hm4:Mod noF w w4:=Hm3.out.trans ((Mod.refl (fun g=>g=w.heap.size) w3).grown hturn4.grown fun j hj _=>by cases hj;rfl) fun g hg e=>by omega
     refine ⟨⟨k+1,by omega,by go_num,hm4,?_⟩,by simp[intOf];omega⟩;rw[Htk.out];rw[←hlk]at hown4;exact RLab.put Hn.out hown4 hmap HD.out hop hlb
    |some q=>
     rw[hlb]at hD1;have hD1':Maps.has D (keyB x.to)=true:=hD1;clear hD1 hop2
     go_wp2_with (at_lookup;rw[←hw3];refine wpList_lookup_own_ok_int _ rfl _ _ 95 rfl 9 3 .i64 K Tryz.underlying95 Tryz.underlying3 (zeroInt _) w.heap.size n D rfl Hown3.out (.string x.to) (keyB x.to) rfl hkey ?_;intro c hat hwc)
     rw[←hw3];refine ⟨⟨k+1,by omega,by go_num,Hm3.out,?_⟩,by simp[intOf];omega⟩;rw[Htk.out]
     exact RLab.same ⟨n,D,Hn.out,Hown3.out,HD.out⟩ fun _=>by rw[hlb];rfl
   ·obtain ⟨e0,f0⟩:(x.op.toList==[108,97,98,101,108])=false∧¬x.op.toList=[108,97,98,101,108]:=by
     have h1:¬x.op.toList=[108,97,98,101,108]:=fun e=>hop (ByteArray.ext (Array.toList_inj.1 (by rw[←ByteArray.toList_eq,e];rfl)));exact ⟨by rw[beq_eq_false_iff_ne];exact h1,h1⟩
    have Hop:=Lib.hid hop;clear hop
    go_wp2_with (at_lookup;rw[←hw3];refine wpList_lookup_own_ok_int _ rfl _ _ 95 rfl 9 3 .i64 K Tryz.underlying95 Tryz.underlying3 (zeroInt _) w.heap.size n D rfl Hown3.out (.string x.to) (keyB x.to) rfl hkey ?_;intro c hat hwc)
    rw[←hw3];refine ⟨⟨k+1,by omega,by go_num,Hm3.out,?_⟩,by simp[intOf];omega⟩;rw[Htk.out];exact RLab.same ⟨n,D,Hn.out,Hown3.out,HD.out⟩ fun g=>absurd g Hop.out
  ·have hd:decide ((k:Int)<(l.length:Int))=false:=by simp;omega
   obtain rfl:k=l.length:=by omega
   have hR:=HR.out;rw[List.take_length]at hR;have HR2:=Lib.hid hR;clear hR;go_wp2;go_ret;exact ⟨rfl,Hm.out,HR2.out⟩
end
section
open Go.RowKit Qs Qh
def LabMap(w:World)(b:Nat)(c:List Instr):Prop:=RLab w b (c.map rawI)
theorem LabMap.keep{F:Nat→Prop}{w w':World}{b:Nat}{c:List Instr}(h:LabMap w b c)(hM:Mod F w w')(hF:¬F b):LabMap w' b c:=RLab.keep h hM hF
theorem LabMap.lt{w:World}{b:Nat}{c:List Instr}(h:LabMap w b c):b<w.heap.size:=RLab.lt h
structure XB where
 bX:Nat
 bL:Nat
 cap:Nat
 P:PB
 cv:Nat→Value
 mb:Nat→Nat
def tVals(X:XB)(t:Nat)(h:Thr):List Value:=
 [X.cv t,.map (some (X.mb t)),iv (h.regs.getD 0 0),iv (h.regs.getD 1 0),iv (h.regs.getD 2 0),iv (h.regs.getD 3 0),iv (h.regs.getD 4 0),iv (h.regs.getD 5 0),iv (h.regs.getD 6 0),iv (h.regs.getD 7 0),iv (h.pc:Nat)]
def XFoot(X:XB)(vs:List Value)(mv:Value)(x:Nat):Prop:=x=X.bX∨x=X.bL∨PFoot X.P vs x∨mv.ownBlock=some x
structure PMach(w:World)(X:XB)(vs:List Value)(mv:Value)(m:M):Prop where
 top:w.heap[X.bX]?=some (.cells #[.pointer (some ⟨X.P.bM,0,none⟩),.slice (some ⟨X.bL,0,none⟩) m.T.length X.cap,mv,.int .i64 m.faults] 87 (0,0))
 thr:∃junk,w.heap[X.bL]?=some (.cells (flat (tVals X) 0 m.T++junk).toArray 99 (0,0))
 mem:PMV w X.P m.cells m.waits vs
 code:∀(t:Nat) h,m.T[t]?=some h→CodeAt w (X.cv t) h.code∧∀g,(X.cv t).ownBlock=some g→¬XFoot X vs mv g∧g<w.heap.size
 maps:∀(t:Nat) h,m.T[t]?=some h→LabMap w (X.mb t) h.code∧¬XFoot X vs mv (X.mb t)
 marks:offRow w 78 2 mv m.marks.length (flat markVals 0 m.marks)
 nX:X.bX≠X.bL∧¬PFoot X.P vs X.bX∧¬PFoot X.P vs X.bL
 nM:∀g,mv.ownBlock=some g→g≠X.bX∧g≠X.bL∧¬PFoot X.P vs g
variable {w w1 w2 w':World}{X:XB}{vs vs':List Value}{mv mv':Value}{m m':M}
theorem PMach.lt(h:PMach w X vs mv m){x:Nat}(hx:XFoot X vs mv x):x<w.heap.size:=by
 obtain ⟨j,hj⟩:=h.thr
 rcases hx with rfl|rfl|hx|hx
 ·exact lt_of_block h.top
 ·exact lt_of_block hj
 ·exact h.mem.lt hx
 ·exact h.marks.lt x hx
theorem PMach.keep{F:Nat→Prop}(h:PMach w X vs mv m)(hM:Mod F w w')(hF:∀x,XFoot X vs mv x→¬F x)(hC:∀(t:Nat) h,m.T[t]?=some h→(∀g,(X.cv t).ownBlock=some g→¬F g)∧¬F (X.mb t)):PMach w' X vs mv m:=by
 obtain ⟨j,hj⟩:=h.thr;refine ⟨hM.heap h.top (hF _ (.inl rfl)),⟨j,hM.heap hj (hF _ (.inr (.inl rfl)))⟩,h.mem.keep hM (fun x hx=>hF x (.inr (.inr (.inl hx)))),fun t k hk=>?_,fun t k hk=>?_,h.marks.keep hM (fun g hg=>hF g (.inr (.inr (.inr hg)))),h.nX,h.nM⟩
 ·obtain ⟨a,b⟩:=h.code t k hk;exact ⟨a.frame hM (hC t k hk).1,fun g hg=>⟨(b g hg).1,Nat.lt_of_lt_of_le (b g hg).2 hM.size⟩⟩
 ·obtain ⟨a,b⟩:=h.maps t k hk;exact ⟨a.keep hM (hC t k hk).2,b⟩
theorem PMach.keep0(h:PMach w X vs mv m)(hM:Mod noF w w'):PMach w' X vs mv m:=h.keep hM (fun _ _ e=>e) (fun _ _ _=>⟨fun _ _ e=>e,fun e=>e⟩)
structure XUp(w:World)(X:XB)(vs:List Value)(mv:Value)(m:M)(w':World)(m':M)(vs':List Value)(mv':Value):Prop where
 rep:PMach w' X vs' mv' m'
 mod:Mod (XFoot X vs mv) w w'
 foot:∀x,XFoot X vs' mv' x→XFoot X vs mv x∨w.heap.size≤x
theorem XUp.quiet(h:PMach w X vs mv m)(hM:Mod noF w w'):XUp w X vs mv m w' m vs mv:=⟨h.keep0 hM,hM.any,fun _ h=>.inl h⟩
theorem XUp.trans{m1 m2:M}{vs1 vs2:List Value}{mv1 mv2:Value}(h:XUp w X vs mv m w1 m1 vs1 mv1)(k:XUp w1 X vs1 mv1 m1 w2 m2 vs2 mv2):XUp w X vs mv m w2 m2 vs2 mv2:=
 ⟨k.rep,h.mod.trans k.mod (fun x hx hf=>(h.foot x hf).resolve_right (by omega)),fun x hx=>(k.foot x hx).elim (fun e=>h.foot x e) (fun e=>.inr (Nat.le_trans h.mod.size e))⟩
theorem XUp.then0{m1:M}{vs1:List Value}{mv1:Value}(h:XUp w X vs mv m w1 m1 vs1 mv1)(k:Mod noF w1 w2):XUp w X vs mv m w2 m1 vs1 mv1:=h.trans (XUp.quiet h.rep k)
theorem tVals_len(X:XB)(s:Nat)(h:Thr):(tVals X s h).length=11:=rfl
theorem PMach.top_at(h:PMach w X vs mv m):w.cell? ⟨X.bX,0,none⟩=some (.pointer (some ⟨X.P.bM,0,none⟩))∧w.cell? ⟨X.bX,1,none⟩=some (.slice (some ⟨X.bL,0,none⟩) m.T.length X.cap)∧w.cell? ⟨X.bX,2,none⟩=some mv∧w.cell? ⟨X.bX,3,none⟩=some (.int .i64 m.faults)∧
  (∀j,w.frozen? ⟨X.bX,j,none⟩=false)∧X.bX<w.heap.size:=by
 have hc:=fun j=>cell_of_heap h.top j;exact ⟨(hc 0).trans rfl,(hc 1).trans rfl,(hc 2).trans rfl,(hc 3).trans rfl,fun j=>free_of_heap h.top j,lt_of_block h.top⟩
theorem PMach.thr_at(h:PMach w X vs mv m){t:Nat}{k:Thr}(ht:m.T[t]?=some k):(∀j u,(tVals X t k)[j]?=some u→w.cell? ⟨X.bL,t*11+j,none⟩=some u)∧(∀j,w.frozen? ⟨X.bL,j,none⟩=false)∧X.bL<w.heap.size:=by
 obtain ⟨junk,hj⟩:=h.thr;refine ⟨fun j u hu=>?_,fun j=>free_of_heap hj j,lt_of_block hj⟩
 have hl:j<11:=by have:=(List.getElem?_eq_some_iff.1 hu).1;simpa[tVals]using this
 rw[cell_of_heap hj];have:=flat_get (tVals X) 11 (tVals_len X) hl m.T 0 t k ht junk;rw[Nat.zero_add]at this;simp only[List.getElem?_toArray];rw[this];exact hu
theorem PMach.setThr(h:PMach w X vs mv m){t j:Nat}{k k':Thr}(ht:m.T[t]?=some k)(hj:j<11){v:Value}(hv:tVals X t k'=(tVals X t k).set j v)(hc:k'.code=k.code) :
  XUp w X vs mv m (w.setCell ⟨X.bL,t*11+j,none⟩ v) {m with T:=m.T.set t k'} vs mv:=by
 have hM:Mod (fun x=>x=X.bL) w (w.setCell ⟨X.bL,t*11+j,none⟩ v):=(Mod.refl (fun x=>x=X.bL) w).setCell (fun _=>rfl) _;obtain ⟨junk,hb⟩:=h.thr;obtain ⟨n1,n2,n3⟩:=h.nX
 have hT:∀(u:Nat) k2,(m.T.set t k')[u]?=some k2→∃k1,m.T[u]?=some k1∧k2.code=k1.code:=fun u k2 hu=>by
  rw[List.getElem?_set]at hu
  by_cases e:t=u
  ·subst e;rw[if_pos rfl,if_pos (List.getElem?_eq_some_iff.1 ht).1]at hu;cases hu;exact ⟨k,ht,hc⟩
  ·rw[if_neg e]at hu;exact ⟨k2,hu,rfl⟩
 have hcn:∀(u:Nat) k1,m.T[u]?=some k1→(∀g,(X.cv u).ownBlock=some g→¬g=X.bL)∧¬X.mb u=X.bL:=fun u k1 hu=>
  ⟨fun g hg e=>((h.code u k1 hu).2 g hg).1 (.inr (.inl e)),fun e=>(h.maps u k1 hu).2 (.inr (.inl e))⟩
 refine ⟨⟨?_,⟨junk,?_⟩,h.mem.keep hM (fun x hx e=>n3 (e ▸ hx)),fun u k2 hu=>?_,fun u k2 hu=>?_,h.marks.keep hM (fun g hg=>(h.nM g hg).2.1),h.nX,h.nM⟩,hM.mono fun x _ e=>.inr (.inl e),fun _ h=>.inl h⟩
 ·have:=hM.heap h.top n1
  simpa using this
 ·rw[Qh.heap_setCell_same hb];have:=flat_set (tVals X) 11 (tVals_len X) hj v m.T 0 t k k' ht (by rw[Nat.zero_add];exact hv) junk;rw[←this];simp
 ·obtain ⟨k1,hk1,e⟩:=hT u k2 hu;obtain ⟨a,b⟩:=h.code u k1 hk1;rw[e];exact ⟨a.frame hM (hcn u k1 hk1).1,fun g hg=>⟨(b g hg).1,Nat.lt_of_lt_of_le (b g hg).2 hM.size⟩⟩
 ·obtain ⟨k1,hk1,e⟩:=hT u k2 hu;obtain ⟨a,b⟩:=h.maps u k1 hk1;rw[e];exact ⟨a.keep hM (hcn u k1 hk1).2,b⟩
theorem PMach.setFaults(h:PMach w X vs mv m)(n:Int):XUp w X vs mv m (w.setCell ⟨X.bX,3,none⟩ (.int .i64 n)) {m with faults:=n} vs mv:=by
 have hM:Mod (fun x=>x=X.bX) w (w.setCell ⟨X.bX,3,none⟩ (.int .i64 n)):=(Mod.refl (fun x=>x=X.bX) w).setCell (fun _=>rfl) _;obtain ⟨junk,hb⟩:=h.thr;obtain ⟨n1,n2,n3⟩:=h.nX
 refine ⟨⟨?_,⟨junk,hM.heap hb (fun e=>n1 e.symm)⟩,h.mem.keep hM (fun x hx e=>n2 (e ▸ hx)),fun u k hu=>?_,fun u k hu=>?_,h.marks.keep hM (fun g hg=>(h.nM g hg).1),h.nX,h.nM⟩,hM.mono fun x _ e=>.inl e,fun _ h=>.inl h⟩
 ·rw[Qh.heap_setCell_same h.top];simp
 ·obtain ⟨a,b⟩:=h.code u k hu;exact ⟨a.frame hM (fun g hg e=>(b g hg).1 (.inl e)),fun g hg=>⟨(b g hg).1,Nat.lt_of_lt_of_le (b g hg).2 hM.size⟩⟩
 ·obtain ⟨a,b⟩:=h.maps u k hu;exact ⟨a.keep hM (fun e=>b (.inl e)),b⟩
theorem PMach.mem_up(h:PMach w X vs mv m){l':List Cell}{ws':List (List Wt)}(u:PUp w X.P vs w' l' ws' vs'):XUp w X vs mv m w' {m with cells:=l',waits:=ws'} vs' mv:=by
 obtain ⟨junk,hb⟩:=h.thr;obtain ⟨n1,n2,n3⟩:=h.nX;have hs:=u.mod.size;have fresh:∀x,x<w.heap.size→¬PFoot X.P vs x→¬PFoot X.P vs' x:=fun x hx hn hf=>(u.foot x hf).elim hn (fun e=>by omega)
 have hft:∀x,XFoot X vs' mv x→XFoot X vs mv x∨w.heap.size≤x:=fun x hx=>by
  rcases hx with e|e|e|e
  ·exact .inl (.inl e)
  ·exact .inl (.inr (.inl e))
  ·exact (u.foot x e).imp (fun e=>.inr (.inr (.inl e))) id
  ·exact .inl (.inr (.inr (.inr e)))
 refine ⟨⟨u.mod.heap h.top n2,⟨junk,u.mod.heap hb n3⟩,u.rep,fun t k hk=>?_,fun t k hk=>?_,h.marks.keep u.mod (fun g hg=>(h.nM g hg).2.2),⟨n1,fresh _ (lt_of_block h.top) n2,fresh _ (lt_of_block hb) n3⟩,fun g hg=>⟨(h.nM g hg).1,(h.nM g hg).2.1,fresh g (h.marks.lt g hg) (h.nM g hg).2.2⟩⟩,
  u.mod.mono fun x _ e=>.inr (.inr (.inl e)),hft⟩
 ·obtain ⟨a,b⟩:=h.code t k hk;exact ⟨a.frame u.mod (fun g hg e=>(b g hg).1 (.inr (.inr (.inl e)))),fun g hg=>⟨fun e=>(hft g e).elim (b g hg).1 (fun e2=>by have:=(b g hg).2;omega),Nat.lt_of_lt_of_le (b g hg).2 hs⟩⟩
 ·obtain ⟨a,b⟩:=h.maps t k hk;exact ⟨a.keep u.mod (fun e=>b (.inr (.inr (.inl e)))),fun e=>(hft _ e).elim b (fun e2=>by have:=a.lt;omega)⟩
theorem PMach.setMarks(h:PMach w X vs mv m){x:Int × Int}(hM:Mod (fun g=>mv.ownBlock=some g) w w2)(hrow:offRow w2 78 2 mv' (m.marks.length+1) (flat markVals 0 (m.marks++[x])))(hnew:∀g,mv'.ownBlock=some g→mv.ownBlock=some g∨w.heap.size≤g) :
  XUp w X vs mv m (w2.setCell ⟨X.bX,2,none⟩ mv') {m with marks:=m.marks++[x]} vs mv':=by
 have hM2:Mod (fun g=>g=X.bX) w2 (w2.setCell ⟨X.bX,2,none⟩ mv'):=(Mod.refl (fun g=>g=X.bX) w2).setCell (fun _=>rfl) _;obtain ⟨junk,hb⟩:=h.thr;obtain ⟨n1,n2,n3⟩:=h.nX;have hs:=hM.size
 have hnm:∀g,mv'.ownBlock=some g→g≠X.bX∧g≠X.bL∧¬PFoot X.P vs g:=fun g hg=>by
  rcases hnew g hg with e|e
  ·exact h.nM g e
  ·have a1:=lt_of_block h.top;have a2:=lt_of_block hb;exact ⟨by omega,by omega,fun e2=>by have:=h.mem.lt e2;omega⟩
 have hft:∀y,XFoot X vs mv' y→XFoot X vs mv y∨w.heap.size≤y:=fun y hy=>by
  rcases hy with e|e|e|e
  ·exact .inl (.inl e)
  ·exact .inl (.inr (.inl e))
  ·exact .inl (.inr (.inr (.inl e)))
  ·exact (hnew y e).imp (fun e=>.inr (.inr (.inr e))) id
 have hMM:Mod (XFoot X vs mv) w (w2.setCell ⟨X.bX,2,none⟩ mv'):=(hM.mono fun y _ e=>.inr (.inr (.inr e))).trans hM2 (fun y _ e=>.inl e)
 refine ⟨⟨?_,⟨junk,hM2.heap (hM.heap hb (fun e=>(h.nM _ e).2.1 rfl)) (fun e=>n1 e.symm)⟩,(h.mem.keep hM (fun y hy e=>(h.nM y e).2.2 hy)).keep hM2 (fun y hy e=>n2 (e ▸ hy)),fun t k hk=>?_,fun t k hk=>?_,?_,h.nX,hnm⟩,hMM,hft⟩
 ·have:=Qh.heap_setCell_same (hM.heap h.top (fun e=>(h.nM _ e).1 rfl)) 2 mv';rw[this];simp
 ·obtain ⟨a,b⟩:=h.code t k hk;exact ⟨a.frame hMM (fun g hg=>(b g hg).1),fun g hg=>⟨fun e=>(hft g e).elim (b g hg).1 (fun e2=>by have:=(b g hg).2;omega),Nat.lt_of_lt_of_le (b g hg).2 hMM.size⟩⟩
 ·obtain ⟨a,b⟩:=h.maps t k hk;exact ⟨a.keep hMM b,fun e=>(hft _ e).elim b (fun e2=>by have:=a.lt;omega)⟩
 ·simp only[List.length_append,List.length_singleton];exact hrow.keep hM2 fun g hg=>(hnm g hg).1
end
section
open Go.RowKit Qs Qh
variable {K:Nat→Bool}{w:World}{L:Lay}{m:M}{N:Int}
def Fenced(K:Nat→Bool)(w:World)(L:Lay)(m:M)(t:Nat)(l:List Wt)(k:Nat)(n:Value)(wr:World):Prop:=
 ∃pre r Lq,l=pre++r∧r.length=k∧n=.int .i64 ((drainAll m.cells pre).2:Nat)∧Up ty K w L m wr Lq {m with cells:=(drainAll m.cells pre).1,waits:=m.waits.set t r}
theorem memFence_any(R:Rep ty K w L m)(h1:K 1=true)(h2:K 2=true)(h3:K 3=true)(h6:K 6=true)(h7:K 7=true)(om:OkM N m)(ol:OkL L m)(hN:N≤1000000000000)(t:Nat){l:List Wt}(hl:m.waits[t]?=some l) :
  Calls Tryz.prog 100 #[.pointer (some ⟨L.blk 1 0,0,none⟩),.int .i64 t] w fun e w'=>
   e=.returned (.int .i64 ((drainAll m.cells l).2:Nat))∧∃L',Up ty K w L m w' L' {m with cells:=(drainAll m.cells l).1,waits:=m.waits.set t []}:=by
 have ht:t<m.waits.length:=(List.getElem?_eq_some_iff.1 hl).1;have hwl:=om.waits;have hl8:=om.wlen t l hl;have Hl:=Lib.hid hl;have HR:=Lib.hid R;have Hom:=Lib.hid om;have Hol:=Lib.hid ol;clear hl R om ol
 go_enter Tryz.func100,Tryz.ntmps100
 go_wp2
 go_loopg [5] l.length (fun k n wr=>Fenced K w L m t l k n wr)
 case atStart=>
  refine ⟨[],l,L,rfl,rfl,rfl,?_⟩;rw[set_back Hl.out];exact Up.refl HR.out Hol.out
 case round=>
  obtain ⟨pre,r,Lq,hlq,hrk,rfl,hU⟩:=hrel
  have hwq:(m.waits.set t r)[t]?=some r:=by simp[ht]
  have e1:Lq.blk 1 0=L.blk 1 0:=(hU.ext.same 1 0 (by omega) (by omega)).1;have hval:=Hom.out.wval t l Hl.out
  have omq:OkM N {m with cells:=(drainAll m.cells pre).1,waits:=m.waits.set t r}:=by
   have o1:=drainAll_ok pre Hom.out (fun x hx=>(hval x (by rw[hlq];simp[hx])).1);exact o1.setWaits (by rw[hlq]at hl8;simp at hl8;omega) (fun x hx=>by simpa[drainAll_length]using hval x (by rw[hlq];simp[hx]))
  have c0:=hU.rep.waits_at h1 hU.ok;have c1:=waits_row hU.rep h3 hU.ok (t:=t) hwq;have hsp3:=hU.ok.sp3;rw[e1]at c0;simp only[List.length_set]at c0 hsp3;have hcount:=drainAll_le pre m.cells
  have hpl:pre.length≤8:=by rw[hlq]at hl8;simp at hl8;omega
  generalize hnf:(drainAll m.cells pre).2=nf at *
  have hnf8:nf≤8:=by omega
  have Hnf:=Lib.hid hnf;have HU:=Lib.hid hU;have Homq:=Lib.hid omq;have Hlq:=Lib.hid hlq;have E1:=Lib.hid e1;have Hwq:=Lib.hid hwq;have Hrk:=Lib.hid hrk;clear hnf hU omq hlq e1 hwq hval hrk hcount hpl
  cases r with
  |nil=>
   have hrow:∃sa sc,Lq.row 7 t 0=.slice sa 0 sc:=by
    unfold Lay.row
    cases h:Lq.nil 7 t with
    |true=>exact ⟨none,0,rfl⟩
    |false=>exact ⟨_,_,rfl⟩
   obtain ⟨sa,sc,hrow⟩:=hrow;rw[List.length_nil,hrow]at c1;clear hrow;go_wp2;go_ret
   have hlp:l=pre:=by have:=Hlq.out;simpa using this
   refine ⟨ret_int (by rw[hlp,Hnf.out]),Lq,?_⟩;rw[hlp];exact HU.out
  |cons x r=>
   have hn:Lq.nil 7 t=false:=by
    cases h:Lq.nil 7 t with
    |false=>rfl
    |true=>have:=HU.out.ok.n7 t _ Hwq.out h;cases this
   rw[row_some hn]at c1;simp only[List.length_cons]at c1;have hcall:=drain_some HU.out.rep h1 h2 h3 h6 h7 Homq.out HU.out.ok hN t Hwq.out;rw[E1.out]at hcall;have Hcall:=Lib.hid hcall
   have hde:drainE (drainAll m.cells pre).1 x=0∨drainE (drainAll m.cells pre).1 x=7:=by unfold drainE;split <;> simp
   clear hn hcall
   rcases hde with hde|hde
   ·have hb:(drain1 (drainAll m.cells pre).1 x).2=false:=by
     rw[drain1_bad];unfold drainE at hde
     cases h:hereIn (drainAll m.cells pre).1 x.c x.g with
     |true=>rfl
     |false=>rw[h]at hde;simp at hde
    have Hb:=Lib.hid hb;have Hde:=Lib.hid hde;clear hde hb
    go_wp2_with (go_at_call 52;refine Hcall.out.mono ?_;rintro e w5 ⟨rfl,L5,hU5⟩;rw[show drainE _ x=_ from Hde.out])
    go_roundg r.length
    case measure=>have:=Hrk.out;simp at this;omega
    case rel=>
     refine ⟨pre++[x],r,L5,by rw[Hlq.out];simp,rfl,?_,?_⟩
     ·rw[drainAll_snoc,Hb.out,Hnf.out];rfl
     ·rw[drainAll_snoc];have:=HU.out.trans hU5;simp only[List.set_set]at this;exact this
   ·have hb:(drain1 (drainAll m.cells pre).1 x).2=true:=by
     rw[drain1_bad];unfold drainE at hde
     cases h:hereIn (drainAll m.cells pre).1 x.c x.g with
     |true=>rw[h]at hde;simp at hde
     |false=>rfl
    have Hb:=Lib.hid hb;have Hde:=Lib.hid hde;clear hde hb
    go_wp2_with (go_at_call 52;refine Hcall.out.mono ?_;rintro e w5 ⟨rfl,L5,hU5⟩;rw[show drainE _ x=_ from Hde.out])
    go_roundg r.length
    case measure=>have:=Hrk.out;simp at this;omega
    case rel=>
     refine ⟨pre++[x],r,L5,by rw[Hlq.out];simp,rfl,?_,?_⟩
     ·rw[drainAll_snoc,Hb.out,Hnf.out];simp
     ·rw[drainAll_snoc];have:=HU.out.trans hU5;simp only[List.set_set]at this;exact this
end
section
open Go.RowKit Go.Shelf Qs Qh
attribute [local go_sem] Oper.semAt_some
theorem back_in(F:Fence)(n:Nat)(h5:F.fn 121)(hro:F.round=none)(a:Option Addr)(len cap:Nat)(w:World) :
  CallsIn F n Tryz.prog 121 #[.slice a len cap] w fun e w'=>e=.returned (.func (.func 132) #[] #[.pointer (some ⟨w.heap.size,0,none⟩)])∧w'=w.alloc (.cells #[.slice a len cap] 180):=by
 refine callsIn_of_wp Tryz.func121 rfl h5 ?_ hro
 simp only[Tryz.ntmps121,List.size_toArray,List.length_cons,List.length_nil,Nat.reduceAdd,Nat.reduceSub,Array.replicate_succ,Array.replicate_zero,List.push_toArray,List.append_toArray,List.nil_append,List.cons_append]
 gi_wp2
 go_ret;exact ⟨rfl,rfl⟩
def upto{α : Type}(f:Nat→α)(k:Nat):List α:=(List.range k).map f
theorem upto_succ{α : Type}(f:Nat→α)(k:Nat):upto f (k+1)=upto f k++[f k]:=by simp[upto,List.range_succ]
theorem upto_length{α : Type}(f:Nat→α)(k:Nat):(upto f k).length=k:=by simp[upto]
def wt0:Wt:=⟨0,0,0,0⟩
def backF(q:List Wt)(k:Nat):Nat × Wt:=(q.length - 1 - k,(q[q.length - 1 - k]?).getD wt0)
def backE(x:Nat × Wt):Array Value:=#[.int .i64 (x.1:Int),.agg #[.int .i64 x.2.c,.int .i64 x.2.g,.int .i64 x.2.w,.int .i64 x.2.v]]
theorem back1_in(F:Fence)(n:Nat)(h7:F.fn 132)(hro:F.round=none)(hn:1≤n)(l Bs n₀ g s cap:Nat)(q:List Wt)(hq8:q.length≤8)(hb:g<n₀)(hBn:Bs<n₀)(J Jx:List (Nat × Wt)→World→Prop)
  (hY:∀pre x W,J pre W→pre.length<q.length→YieldAt F (n - 1) Tryz.prog l (backE x) W fun e W'=>
   (e=.returned (.bool true)∧J (pre++[x]) W'∧Below n₀ W W')∨(e=.returned (.bool false)∧Jx (pre++[x]) W'))
  (W:World) (hBs:W.cell? ⟨Bs,0,none⟩=some (.slice (some ⟨g,s,none⟩) q.length cap)) (hgW:g<W.heap.size) (hc:∀j u,(flat wtVals 0 q)[j]?=some u→W.cell? ⟨g,s+j,none⟩=some u) (h0:J [] W) :
  CallsIn F n Tryz.prog 132 #[.func (.yield l) #[] #[],.pointer (some ⟨Bs,0,none⟩)] W fun e W'=>(∃v,e=.returned v)∧
   ((∃ys,ys=upto (backF q) q.length∧J ys W')∨(∃pre,(∃k,k≤q.length∧pre=upto (backF q) k)∧Jx pre W')):=by
 have hBW:=World.block_lt_of_cell? _ _ hBs;refine callsIn_of_wp Tryz.func132 rfl h7 ?_ hro
 simp only[Tryz.ntmps132,List.size_toArray,List.length_cons,List.length_nil,Nat.reduceAdd,Nat.reduceSub,Array.replicate_succ,Array.replicate_zero,List.push_toArray,List.append_toArray,List.nil_append,List.cons_append]
 gi_wp2
 gi_loopw [3] (fun i wr=>∃k j:Nat,k+j=q.length∧i=.int .i64 ((j:Int) - 1)∧J (upto (backF q) k) wr∧Below n₀ W wr) (fun i _=>(intOf i+1).toNat)
 case atStart=>exact ⟨0,q.length,by omega,rfl,h0,Below.refl _ _⟩
 case round=>
  rename_i wr
  obtain ⟨k,j,hkj,rfl,hJs,hnx⟩:=hrel
  cases j with
  |zero=>
   have hd:decide ((0:Int)≤((0:Nat):Int) - 1)=false:=by simp
   obtain rfl:k=q.length:=by omega
   gi_wp2
   go_end0
   exact ⟨⟨_,rfl⟩,.inl ⟨_,rfl,hJs⟩⟩
  |succ j=>
   have hjq:j<q.length:=by omega
   obtain ⟨x,hx⟩:∃x,q[j]?=some x:=⟨_,List.getElem?_eq_getElem hjq⟩
   have hbk:backF q k=(j,x):=by
    unfold backF;rw[show q.length - 1 - k=j by omega,hx];rfl
   have hcell:∀i u,(wtVals 0 x)[i]?=some u→wr.cell? ⟨g,s+(j*4+i),none⟩=some u:=by
    intro i u hu;have hi:i<4:=(List.getElem?_eq_some_iff.1 hu).1;have:=flat_get wtVals 4 (fun _ _=>rfl) hi q 0 j x hx [];rw[List.append_nil]at this;exact (hnx.cell (p:=⟨g,s+(j*4+i),none⟩) hb).trans (hc _ _ (this.trans hu))
   have c0:wr.cell? ⟨g,s+j*4,none⟩=some (.int .i64 x.c):=hcell 0 _ rfl;have c1:wr.cell? ⟨g,s+j*4+1,none⟩=some (.int .i64 x.g):=hcell 1 _ rfl;have c2:wr.cell? ⟨g,s+j*4+2,none⟩=some (.int .i64 x.w):=hcell 2 _ rfl;have c3:wr.cell? ⟨g,s+j*4+3,none⟩=some (.int .i64 x.v):=hcell 3 _ rfl
   have hbs:=(hnx.cell (p:=⟨Bs,0,none⟩) hBn).trans hBs;have hgw:g<wr.heap.size:=Nat.lt_of_lt_of_le hgW hnx.size
   have hd:decide ((0:Int)≤((j+1:Nat):Int) - 1)=true:=by rw[decide_eq_true_eq];omega
   have hjn:((j+1:Nat):Int) - 1=(j:Int):=by omega
   have hji:(j:Int)<(q.length:Int):=by omega
   rw[hjn]at hd;rw[hjn];obtain ⟨fn,tmps,assign,body,hy,hR⟩:=hY _ (j,x) wr hJs (by rw[upto_length];omega);unfold backE at hy;dsimp only at hy
   gi_wp2
   refine hR.mono ?_;rintro e W3 (⟨rfl,hJ3,hk3⟩|⟨rfl,hJx3⟩)
   ·gi_wp2
    go_roundw
    case rel=>exact ⟨k+1,j,by omega,by simp,by rw[upto_succ,hbk];exact hJ3,hnx.trans hk3⟩
    case measure=>simp[intOf]
   ·gi_wp2
    refine bodyPost_ret (results_none rfl _ _ _) rfl ?_;exact ⟨⟨_,rfl⟩,.inr ⟨_,⟨k+1,by omega,by rw[upto_succ,hbk]⟩,hJx3⟩⟩
end
section
open Go.RowKit Go.Shelf Qs Qh
attribute [local go_sem] Oper.semAt_some
theorem back1_nil(F:Fence)(n:Nat)(h7:F.fn 132)(hro:F.round=none)(l Bs:Nat)(J:List (Nat × Wt)→World→Prop)(W:World)(hBs:W.cell? ⟨Bs,0,none⟩=some (.slice none 0 0))(h0:J [] W) :
  CallsIn F n Tryz.prog 132 #[.func (.yield l) #[] #[],.pointer (some ⟨Bs,0,none⟩)] W fun e W'=>(∃v,e=.returned v)∧J [] W':=by
 have hBW:=World.block_lt_of_cell? _ _ hBs;refine callsIn_of_wp Tryz.func132 rfl h7 ?_ hro
 simp only[Tryz.ntmps132,List.size_toArray,List.length_cons,List.length_nil,Nat.reduceAdd,Nat.reduceSub,Array.replicate_succ,Array.replicate_zero,List.push_toArray,List.append_toArray,List.nil_append,List.cons_append]
 gi_wp2
 gi_loopw [3] (fun i wr=>i=.int .i64 (-1)∧J [] wr) (fun _ _=>0)
 case atStart=>exact ⟨rfl,h0⟩
 case round=>
  obtain ⟨rfl,hJs⟩:=hrel
  gi_wp2
  go_end0
  exact ⟨⟨_,rfl⟩,hJs⟩
theorem below_row{w W:World}{v:Value}{q:List Wt}(h:waitRow w v q)(hW:Below w.heap.size w W):waitRow W v q:=h.keep (Mod.below hW) fun _ _ e=>e
theorem back_stops(F:Fence)(n:Nat)(h7:F.fn 132)(hro:F.round=none)(hn:1≤n)(Bs:Nat)(sv:Value)(q:List Wt)(hq8:q.length≤8)(w:World)(hBs:Bs<w.heap.size)
  (hc:w.cell? ⟨Bs,0,none⟩=some sv) (hI:waitRow w sv q) :
  SeqStopsK F n Tryz.prog 132 #[.pointer (some ⟨Bs,0,none⟩)] backE (Below w.heap.size) (fun ys=>ys=upto (backF q) q.length) (fun pre=>∃k,k≤q.length∧pre=upto (backF q) k) q.length w:=fun l J Jx W hW _ _ hY h0=>by
 have hc':=(hW.cell (p:=⟨Bs,0,none⟩) hBs).trans hc;have hlt:=hI.lt
 rcases (below_row hI hW).2 with ⟨rfl,h00⟩|⟨g,s,cap,cur,rfl,hg,r1,r2,r3,r4⟩
 ·obtain rfl:q=[]:=List.eq_nil_of_length_eq_zero h00;exact (back1_nil F n h7 hro l Bs J W hc' h0).mono fun e W' ⟨he,hj⟩=>⟨he,.inl ⟨_,rfl,hj⟩⟩
 ·have hgl:=hlt g rfl;refine back1_in F n h7 hro hn l Bs w.heap.size g s cap q hq8 hgl hBs J Jx hY W hc' (lt_of_block hg) (fun j u hu=>?_) h0;rw[cell_of_heap hg];rw[←r4,List.getElem?_take]at hu
  split at hu
  ·rw[List.getElem?_drop]at hu;simpa using hu
  ·cases hu
end
section
open Go.RowKit Qs Qh
def hit(c r W:Int)(y:Wt):Prop:=y.c=c∧y.g=r∧y.w=W
theorem look_none{c r W:Int}:∀(q:List Wt) (v:Int),(∀y∈q,¬hit c r W y)→Qs.look q c r W v=v
 |[],v,_=>rfl
 |y :: q,v,h=>by
  have hy:¬(y.c=c∧y.g=r∧y.w=W):=h y (by simp);unfold Qs.look;simp only[List.foldl_cons];rw[if_neg hy];exact look_none q v fun z hz=>h z (by simp[hz])
theorem look_at{c r W:Int}{q:List Wt}{j:Nat}{y:Wt}(v:Int)(hj:q[j]?=some y)(hy:hit c r W y)(hn:∀i z,j<i→q[i]?=some z→¬hit c r W z):Qs.look q c r W v=y.v:=by
 obtain ⟨hl,rfl⟩:=List.getElem?_eq_some_iff.1 hj
 have e:q=q.take j++(q[j] :: q.drop (j+1)):=by rw[←List.drop_eq_getElem_cons hl,List.take_append_drop]
 have hy':q[j].c=c∧q[j].g=r∧q[j].w=W:=hy
 have:∀l1 l2:List Wt,∀x:Wt,(x.c=c∧x.g=r∧x.w=W)→Qs.look (l1++(x :: l2)) c r W v=Qs.look l2 c r W x.v:=by
  intro l1 l2 x hx;unfold Qs.look;rw[List.foldl_append,List.foldl_cons,if_pos hx]
 conv=>lhs;rw[e]
 rw[this _ _ _ hy'];refine look_none _ _ fun z hz=>?_;obtain ⟨i,hi⟩:=List.mem_iff_getElem?.1 hz;rw[List.getElem?_drop]at hi;exact hn (j+1+i) z (by omega) hi
theorem upto_mem{α : Type}{f:Nat→α}{k i:Nat}(h:i<k):f i∈upto f k:=by
 unfold upto;exact List.mem_map.2 ⟨i,by simpa using h,rfl⟩
theorem back_get{q:List Wt}{i:Nat}{z:Wt}(h:q[i]?=some z):i<q.length∧backF q (q.length - 1 - i)=(i,z):=by
 have hl:=(List.getElem?_eq_some_iff.1 h).1;refine ⟨hl,?_⟩;unfold backF;rw[show q.length - 1 - (q.length - 1 - i)=i by omega,h];rfl
theorem look_all{c r W:Int}{q:List Wt}(v:Int)(h:∀y∈upto (backF q) q.length,¬hit c r W y.2):Qs.look q c r W v=v:=by
 refine look_none q v fun y hy=>?_;obtain ⟨i,hi⟩:=List.mem_iff_getElem?.1 hy;obtain ⟨hl,hb⟩:=back_get hi;have:=h _ (upto_mem (f:=backF q) (k:=q.length) (i:=q.length - 1 - i) (by omega))
 rwa [hb]at this
theorem look_found{c r W:Int}{q:List Wt}{k:Nat}{pre:List (Nat × Wt)}{y:Nat × Wt}(v:Int)(hk:k≤q.length)(e:pre++[y]=upto (backF q) k)(hy:hit c r W y.2)(hn:∀z∈pre,¬hit c r W z.2):Qs.look q c r W v=y.2.v:=by
 cases k with
 |zero=>have:=congrArg List.length e;simp[upto_length]at this
 |succ k=>
  rw[upto_succ]at e;obtain ⟨rfl,e2⟩:=List.append_inj' e rfl
  obtain rfl:y=backF q k:=by simpa using e2
  have hj:q[q.length - 1 - k]?=some (backF q k).2:=by
   unfold backF;rw[List.getElem?_eq_getElem (show q.length - 1 - k<q.length by omega)];rfl
  refine look_at v hj hy fun i z hi hz=>?_;obtain ⟨hl,hb⟩:=back_get hz;have:=hn _ (upto_mem (f:=backF q) (k:=k) (i:=q.length - 1 - i) (by omega))
  rwa [hb]at this
end
section
open Go.RowKit Qs Qh
variable {w:World}{B:PB}{l:List Cell}{ws:List (List Wt)}{vs:List Value}{a:Nat→Addr}
theorem wrongW(v:Int)(w:World):Calls Tryz.prog 133 #[.int .i64 v] w fun e w'=>e=.returned (.bool (!isWord v))∧w=w':=by
 go_enter Tryz.func133,Tryz.ntmps133
 go_wp2_with fail
 refine (right_any v w).mono ?_;rintro e w' ⟨rfl,rfl⟩;go_wp2;go_ret;exact ⟨rfl,rfl⟩
def intsRow(w:World)(v:Value)(l:List Int):Prop:=∃a c,v=.slice a l.length c∧∀(i:Nat) n,l[i]?=some n→∃b off,a=some ⟨b,off,none⟩∧b<w.heap.size∧w.cell? ⟨b,off+i,none⟩=some (.int .i64 n)
def firstBad:List Int→Nat→Int
 |[],_=>-1
 |n :: r,i=>if isWord n then firstBad r (i+1)else (i:Int)
theorem firstBad_at{l:List Int}{k:Nat}{n:Int}:∀ {s:Nat},l[k]?=some n→(∀(j:Nat) m,j<k→l[j]?=some m→isWord m=true)→isWord n=false→firstBad l s=((s+k:Nat):Int):=by
 induction l generalizing k with
 |nil=>intro s h;simp at h
 |cons x r ih=>
  intro s h hj hn
  cases k with
  |zero=>simp at h;subst h;simp[firstBad,hn]
  |succ k=>
   have hx:=hj 0 x (by omega) rfl;simp only[firstBad,hx,if_true];rw[ih (s:=s+1) (by simpa using h) (fun j m hjk hm=>hj (j+1) m (by omega) (by simpa using hm)) hn]
   congr 1;omega
theorem firstBad_none{l:List Int}:∀ {s:Nat},(∀(j:Nat) m,l[j]?=some m→isWord m=true)→firstBad l s = -1:=by
 induction l with
 |nil=>intro s _;rfl
 |cons x r ih=>
  intro s h;have hx:=h 0 x rfl;simp only[firstBad,hx,if_true];exact ih fun j m hm=>h (j+1) m (by simpa using hm)
theorem indexBad(w:World)(v:Value)(l:List Int)(R:intsRow w v l)(hl:l.length≤8) :
  Calls Tryz.prog 113 #[v,.func (.func 133) #[] #[]] w fun e w'=>e=.returned (.int .i64 (firstBad l 0))∧w=w':=by
 obtain ⟨ad,c,rfl,hx⟩:=R;have Hx:=Lib.hid hx;clear hx
 go_enter Tryz.func113,Tryz.ntmps113
 go_wp2
 go_loop [5,8] (fun _ i=>∃k:Nat,k≤l.length∧i=.int .i64 k∧∀(j:Nat) m,j<k→l[j]?=some m→isWord m=true) (fun _ i=>l.length - (intOf i).toNat)
 case atStart=>exact ⟨0,Nat.zero_le _,rfl,fun j m hj=>absurd hj (by omega)⟩
 case round=>
  obtain ⟨k,hk,rfl,hall⟩:=hrel;have Hall:=Lib.hid hall;clear hall
  by_cases hlt:k<l.length
  ·have hd:decide ((k:Int)<(l.length:Int))=true:=by rw[decide_eq_true_eq];omega
   have hki:(k:Int)<(l.length:Int):=by omega
   obtain ⟨n,hn⟩:∃n,l[k]?=some n:=⟨_,List.getElem?_eq_getElem hlt⟩;obtain ⟨b,off,rfl,hb,hc⟩:=Hx.out k n hn;have Hn:=Lib.hid hn;clear hn
   cases hv:isWord n with
   |true=>
    have Hv:=Lib.hid hv;clear hv
    go_wp2_with fail
    refine (wrongW n w).mono ?_;rintro e w' ⟨rfl,rfl⟩;rw[Hv.out];go_wp2
    go_round
    case rel=>
     refine ⟨k+1,by omega,by go_num,fun j m hj hm=>?_⟩
     by_cases e:j=k
     ·subst e;rw[Hn.out]at hm;cases hm;exact Hv.out
     ·exact Hall.out j m (by omega) hm
    case measure=>simp[intOf];omega
   |false=>
    have Hv:=Lib.hid hv;clear hv
    go_wp2_with fail
    refine (wrongW n w).mono ?_;rintro e w' ⟨rfl,rfl⟩;rw[Hv.out];go_wp2;go_ret;refine ⟨?_,rfl⟩;rw[firstBad_at Hn.out Hall.out Hv.out];simp
  ·have hd:decide ((k:Int)<(l.length:Int))=false:=by rw[decide_eq_false_iff_not];omega
   go_wp2;go_ret;refine ⟨?_,rfl⟩;rw[firstBad_none fun j m hm=>Hall.out j m (by have:=(List.getElem?_eq_some_iff.1 hm).1;omega) hm];rfl
theorem firstBad_neg(l:List Int)(s:Nat):decide (0≤firstBad l s) = !l.all isWord:=by
 induction l generalizing s with
 |nil=>rfl
 |cons x r ih=>
  simp only[firstBad,List.all_cons]
  by_cases h:isWord x=true
  ·simp only[h,if_true,ih,Bool.true_and]
  ·have h':isWord x=false:=by simpa using h
   simp[h']
theorem containsBad(w:World)(v:Value)(l:List Int)(R:intsRow w v l)(hl:l.length≤8) :
  Calls Tryz.prog 76 #[v,.func (.func 133) #[] #[]] w fun e w'=>e=.returned (.bool (!l.all isWord))∧w=w':=by
 have hcall:=indexBad w v l R hl;have hfb:=firstBad_neg l 0;have Hcall:=Lib.hid hcall;generalize firstBad l 0=n at *;generalize (!l.all isWord)=bb at *;clear hcall R
 go_enter Tryz.func76,Tryz.ntmps76
 go_wp2_with fail
 refine Hcall.out.mono ?_;rintro e w' ⟨rfl,rfl⟩;go_wp2;go_ret;exact ⟨rfl,rfl⟩
end
section
open Go.RowKit Qs Qh
variable {w w':World}{a:Nat→Addr}{v:Value}{l:List RI}
theorem RLab.looks{b:Nat}(h:RLab w b l){to:ByteArray}(hto:to.size≤maxLen) :
  (Go.Instr.lookup 95 (.map (some b)) (.string to) false).run Tryz.prog w=.ok (.int .i64 (((labR to l 0).getD 0:Nat):Int)) w∧
  (Go.Instr.lookup 95 (.map (some b)) (.string to) true).run Tryz.prog w=.ok (.tuple #[.int .i64 (((labR to l 0).getD 0:Nat):Int),.bool (labR to l 0).isSome]) w:=by
 obtain ⟨n,D,h0,hown,hD⟩:=h;obtain ⟨hD1,hD2⟩:=hD to;have K:=Go.Maps.string_keyed (P:=Tryz.prog) Tryz.underlying9;have hkey:keyOf Tryz.prog 9 (.string to)=some (keyB to):=keyOfS hto;constructor
 ·obtain ⟨c,hrun,hat,hwc⟩:=hown.lookup_int K Tryz.underlying95 Tryz.underlying3 (zeroInt _) hkey;rw[hrun];rw[hD2]at hat;cases hat;rfl
 ·obtain ⟨v,ps,hrun,hv⟩:=hown.look_ok K Tryz.underlying95 (zeroInt _) (plainElem_int Tryz.underlying3 (by decide)) hkey;rw[hrun,hD1];rw[hD2]at hv;obtain ⟨c,rfl,hc,hwc⟩:=plainElem_int_inv Tryz.underlying3 hv;cases hc;rfl
theorem one_neg{x:RI}:0≤oneE x∧oneE x≤4:=by
 unfold oneE
 split
 ·decide
 ·split
  ·decide
  ·split
   ·decide
   ·split
    ·decide
    ·split <;> decide
theorem chkF_at{l:List RI}:∀ {r:List RI} {s k:Nat} {x:RI},r[k]?=some x→(∀(j:Nat) y,j<k→r[j]?=some y→chkI l (s+j) y=0)→chkI l (s+k) x≠0→chkF l r s=(chkI l (s+k) x,((s+k:Nat):Int))
 |[],s,k,x,h,_,_=>by simp at h
 |y :: r,s,0,x,h,_,hx=>by
  cases h;unfold chkF;rw[Nat.add_zero]at *;rw[if_pos hx];simp
 |y :: r,s,k+1,x,h,hz,hx=>by
  unfold chkF;have h0:=hz 0 y (by omega) rfl;rw[Nat.add_zero]at h0;rw[if_neg (by rw[h0];simp)]
  have e:s+1+k=s+(k+1):=by omega
  rw[chkF_at (s:=s+1) (k:=k) (by simpa using h) (fun j z hj hz2=>by rw[show s+1+j=s+(j+1) by omega];exact hz (j+1) z (by omega) (by simpa using hz2)) (by rw[e];exact hx),e]
theorem chkF_none{l:List RI}:∀ {r:List RI} {s:Nat},(∀(j:Nat) y,r[j]?=some y→chkI l (s+j) y=0)→chkF l r s=(0,-1)
 |[],s,_=>rfl
 |y :: r,s,h=>by
  unfold chkF;have h0:=h 0 y rfl;rw[Nat.add_zero]at h0;rw[if_neg (by rw[h0];simp)]
  exact chkF_none fun j z hz=>by rw[show s+1+j=s+(j+1) by omega];exact h (j+1) z (by simpa using hz)
theorem labR_has{x:RI}:∀ {l:List RI} {s k:Nat},l[k]?=some x→x.op=opStr 17→∃q,labR x.to l s=some q
 |[],s,k,h,_=>by simp at h
 |y :: l,s,k,h,hx=>by
  unfold labR
  by_cases e:y.op=opStr 17∧y.to=x.to
  ·rw[if_pos e];exact ⟨s,rfl⟩
  ·rw[if_neg e]
   cases k with
   |zero=>cases h;exact absurd ⟨hx,rfl⟩ e
   |succ k=>exact labR_has (by simpa using h) hx
def ChkV(B:Nat)(w:World)(a:Nat→Addr)(r:Int × Int)(v:Value):Prop:=
 (r.1=0∧v=.nilIface)∨(r=(2,-1)∧v=errV a 1)∨
  (0<r.1∧r.1≤5∧0≤r.2∧∃g,v=.iface 89 (.pointer (some ⟨g,0,none⟩))∧B≤g∧w.heap[g]?=some (.cells #[.int .i64 r.2,errV a (r.1.toNat - 1)] 93 (0,0)))
theorem check_any(h:RCode w v l)(E:ErrsAt w a)(hl:l.length≤maxLen) :
  Calls Tryz.prog 37 #[v] w fun e w'=>∃u,e=.returned u∧Mod noF w w'∧ChkV w.heap.size w' a (chkR l) u:=by
 have H:=Lib.hid h;have HE:=Lib.hid E;obtain ⟨⟨sa,sc,rfl,-⟩,-⟩:=h;have v1:=E.v1;clear E
 by_cases h2:2000<l.length
 ·have hd:decide ((2000:Int)<(l.length:Int))=true:=by simp;omega
  have hr:chkR l=(2,-1):=by unfold chkR;rw[if_pos h2]
  rw[hr];clear hr
  go_enter Tryz.func37,Tryz.ntmps37
  go_wp2;go_ret;exact ⟨_,rfl,Mod.refl _ _,.inr (.inl ⟨rfl,rfl⟩)⟩
 ·have hd:decide ((2000:Int)<(l.length:Int))=false:=by simp;omega
  have hr:chkR l=chkF l l 0:=by unfold chkR;rw[if_neg h2]
  rw[hr];clear hr
  go_enter Tryz.func37,Tryz.ntmps37
  go_wp2_with fail
  refine (labels_any H.out (by omega)).mono ?_;rintro e w1 ⟨rfl,hm1,hR1⟩;have Hm1:=Lib.hid hm1;have HR1:=Lib.hid hR1;clear hm1 hR1;go_wp2
  go_loopw [17,4,5,6,7,8] (fun i _ _ _ _ _ wr=>∃k:Nat,k≤l.length∧i=.int .i64 k∧Mod noF w1 wr∧∀(j:Nat) y,j<k→l[j]?=some y→chkI l j y=0) (fun i _ _ _ _ _ _=>l.length - (intOf i).toNat)
  case atStart=>exact ⟨0,Nat.zero_le _,rfl,Mod.refl _ _,fun j y h=>absurd h (by omega)⟩
  case round=>
   generalize wr=w2 at *;obtain ⟨k,hk,rfl,hm,hz⟩:=hrel;have Hm:=Lib.hid hm;have Hz:=Lib.hid hz;clear hm hz
   by_cases hlt:k<l.length
   ·have hd2:decide ((k:Int)<(l.length:Int))=true:=by simp;omega
    have hki:(k:Int)<(l.length:Int):=by omega
    obtain ⟨x,hx⟩:∃x,l[k]?=some x:=⟨_,List.getElem?_eq_getElem hlt⟩;obtain ⟨⟨a',c',e',hxx⟩,hok⟩:=(H.out.keep Hm1.out).keep Hm.out;cases e';obtain ⟨b,off,rfl,hb,c0,c1,c2,c3,c4⟩:=hxx k x hx;have hto:=hok x (List.mem_of_getElem? hx);have Hx:=Lib.hid hx
    obtain ⟨w3,hw3⟩:∃w3,w3=w2.alloc (.cells #[.string x.op,.int .i64 x.A,.int .i64 x.B,.int .i64 x.C,.string x.to] 73):=⟨_,rfl⟩
    have hm3:Mod noF w1 w3:=by rw[hw3];exact Hm.out.alloc _
    have d0:w3.cell? ⟨w2.heap.size,0,none⟩=some (.string x.op):=by rw[hw3];simp
    have d4:w3.cell? ⟨w2.heap.size,4,none⟩=some (.string x.to):=by rw[hw3];simp
    have E3:=(HE.out.keep Hm1.out).keep hm3;have hone:=one_any x hto E3;have Hone:=Lib.hid hone;have Hm3:=Lib.hid hm3;have HE3:=Lib.hid E3;clear hxx hok hx hm3 hone E3 v1
    go_wp2_with fail
    rw[←hw3];refine Hone.out.mono ?_;rintro e w4 ⟨rfl,hm4⟩;have v3:=(HE3.out.keep hm4).v3;have v4:=(HE3.out.keep hm4).v4;have x0:=hm4.cell d0 (fun e=>e);have x4:=hm4.cell d4 (fun e=>e);have hR4:=(HR1.out.keep (Hm3.out.trans0 hm4) (fun e=>e)).looks hto;obtain ⟨k1,k2⟩:=hR4
    have Hm4:=Lib.hid (Hm3.out.trans0 hm4);clear hm4 hw3 c0 c1 c2 c3 c4 d0 d4
    by_cases h0:oneE x=0
    ·rw[h0]
     have hci:chkI l k x=if x.op=opStr 17∧labR x.to l 0≠some k then 4 else if x.to.toList≠[]∧labR x.to l 0=none then 5 else 0:=by unfold chkI;rw[if_neg (by rw[h0];simp)]
     have herr:errC a 0=.nilIface:=rfl;rw[herr]
     have hcf:∀n,chkI l k x=n→n≠0→chkF l l 0=(n,(k:Int)):=fun n h1 h2=>by
      have:=chkF_at (s:=0) Hx.out (fun j y hj hy=>by rw[Nat.zero_add];exact Hz.out j y hj hy) (by rw[Nat.zero_add,h1];exact h2);rw[Nat.zero_add,h1]at this;exact this
     clear herr h0
     by_cases hop:x.op=opStr 17
     ·obtain ⟨q,hq⟩:=labR_has (s:=0) Hx.out hop;have hop2:x.op=⟨#[108,97,98,101,108]⟩:=hop;rw[hq]at k1 k2 hci;rw[hop2]at x0;simp only[Option.getD_some,Option.isSome_some]at k1 k2
      by_cases hqk:q=k
      ·subst hqk;rw[if_neg (fun g=>g.2 rfl),if_neg (fun g=>by cases g.2)]at hci;have Hci:=Lib.hid hci;clear hci hcf hop hop2 hq
       by_cases hE:x.to.toList=[]
       ·have e1:(x.to.toList==[])=true:=by rw[hE];rfl
        have e2:x.to.toList.isEmpty=true:=by rw[hE];rfl
        go_wp2;refine ⟨⟨q+1,by omega,by go_num,Hm4.out,fun j y hj hy=>?_⟩,by simp[intOf];omega⟩
        by_cases e:j=q
        ·subst e;rw[Hx.out]at hy;cases hy;exact Hci.out
        ·exact Hz.out j y (by omega) hy
       ·have e1:(x.to.toList==[])=false:=by rw[beq_eq_false_iff_ne];exact hE
        have e2:x.to.toList.isEmpty=false:=by cases h:x.to.toList with|nil=>exact absurd h hE|cons _ _=>rfl
        go_wp2;refine ⟨⟨q+1,by omega,by go_num,Hm4.out,fun j y hj hy=>?_⟩,by simp[intOf];omega⟩
        by_cases e:j=q
        ·subst e;rw[Hx.out]at hy;cases hy;exact Hci.out
        ·exact Hz.out j y (by omega) hy
      ·rw[if_pos ⟨hop,fun g=>hqk (Option.some.inj g)⟩]at hci;have Hcf:=Lib.hid (hcf 4 hci (by decide))
       have n1:((q:Int)==(k:Int))=false:=by rw[beq_eq_false_iff_ne];omega
       have n2:¬(q:Int)=(k:Int):=by omega
       have n3:(q==k)=false:=by rw[beq_eq_false_iff_ne];exact hqk
       clear hci hcf hop hop2 hq;go_wp2;go_ret;refine ⟨_,rfl,(Hm1.out.trans0 Hm4.out).alloc _,?_⟩;rw[Hcf.out];exact .inr (.inr ⟨by simp,by simp,Int.natCast_nonneg _,_,rfl,(Hm1.out.trans0 Hm4.out).size,heap_alloc_new _ _⟩)
     ·obtain ⟨e0,f0⟩:(x.op.toList==[108,97,98,101,108])=false∧¬x.op.toList=[108,97,98,101,108]:=by
       have h1:¬x.op.toList=[108,97,98,101,108]:=fun e=>hop (ByteArray.ext (Array.toList_inj.1 (by rw[←ByteArray.toList_eq,e];rfl)));exact ⟨by rw[beq_eq_false_iff_ne];exact h1,h1⟩
      rw[if_neg (fun g=>hop g.1)]at hci;clear hop
      by_cases hE:x.to.toList=[]
      ·have e1:(x.to.toList==[])=true:=by rw[hE];rfl
       have e2:x.to.toList.isEmpty=true:=by rw[hE];rfl
       rw[if_neg (fun g=>g.1 hE)]at hci;have Hci:=Lib.hid hci;clear hci hcf;generalize (labR x.to l 0).isSome=iz at *;go_wp2;refine ⟨⟨k+1,by omega,by go_num,Hm4.out,fun j y hj hy=>?_⟩,by simp[intOf];omega⟩
       by_cases e:j=k
       ·subst e;rw[Hx.out]at hy;cases hy;exact Hci.out
       ·exact Hz.out j y (by omega) hy
      ·have e1:(x.to.toList==[])=false:=by rw[beq_eq_false_iff_ne];exact hE
       have e2:x.to.toList.isEmpty=false:=by cases h:x.to.toList with|nil=>exact absurd h hE|cons _ _=>rfl
       cases hq:labR x.to l 0 with
       |none=>
        rw[hq]at k1 k2 hci;rw[if_pos ⟨hE,rfl⟩]at hci;simp only[Option.getD_none,Option.isSome_none]at k1 k2;have Hcf:=Lib.hid (hcf 5 hci (by decide));clear hci hcf hq;go_wp2;go_ret;refine ⟨_,rfl,(Hm1.out.trans0 Hm4.out).alloc _,?_⟩;rw[Hcf.out]
        exact .inr (.inr ⟨by simp,by simp,Int.natCast_nonneg _,_,rfl,(Hm1.out.trans0 Hm4.out).size,heap_alloc_new _ _⟩)
       |some q=>
        rw[hq]at k1 k2 hci;rw[if_neg (fun g=>by cases g.2)]at hci;simp only[Option.getD_some,Option.isSome_some]at k1 k2;have Hci:=Lib.hid hci;clear hci hcf hq;go_wp2;refine ⟨⟨k+1,by omega,by go_num,Hm4.out,fun j y hj hy=>?_⟩,by simp[intOf];omega⟩
        by_cases e:j=k
        ·subst e;rw[Hx.out]at hy;cases hy;exact Hci.out
        ·exact Hz.out j y (by omega) hy
    ·have hci:chkI l k x=oneE x:=by unfold chkI;rw[if_pos h0]
     have hen:0<oneE x∧oneE x≤4:=by have:=@one_neg x;omega
     have hee:errC a (oneE x)=errV a ((oneE x).toNat - 1):=by unfold errC;rw[if_neg h0]
     rw[hee];have hcf:=chkF_at (s:=0) Hx.out (fun j y hj hy=>by rw[Nat.zero_add];exact Hz.out j y hj hy) (by rw[Nat.zero_add,hci];exact h0);rw[Nat.zero_add,hci]at hcf;have Hcf:=Lib.hid hcf;have Hen:=Lib.hid hen;unfold errV;clear hcf hci h0 hee hen;go_wp2;go_ret
     refine ⟨_,rfl,(Hm1.out.trans0 Hm4.out).alloc _,?_⟩;rw[Hcf.out];exact .inr (.inr ⟨Hen.out.1,by have:=Hen.out;show oneE x≤5;omega,Int.natCast_nonneg _,_,rfl,(Hm1.out.trans0 Hm4.out).size,heap_alloc_new _ _⟩)
   ·have hd2:decide ((k:Int)<(l.length:Int))=false:=by simp;omega
    have hr:chkF l l 0=(0,-1):=chkF_none fun j y hy=>by rw[Nat.zero_add];exact Hz.out j y (by have:=(List.getElem?_eq_some_iff.1 hy).1;omega) hy
    go_wp2;go_ret;exact ⟨_,rfl,Hm1.out.trans0 Hm.out,by rw[hr];exact .inl ⟨rfl,rfl⟩⟩
end
section
open Go.RowKit Qs Qh
def preC(n:Nat)(init:List (List Int))(k:Nat):List Cell:=(List.range n).map (cellC init k)
def initC(n:Nat)(init:List (List Int))(k:Nat)(l:List Int):List Cell:=(preC n init k).set k ⟨pad 4 l,1,true⟩
variable {n k j:Nat}{init:List (List Int)}{l:List Int}{v:Int}
theorem preC_zero:preC n init 0=List.replicate n freshCell:=by
 have h:=congrArg M.cells (preM_zero n 0 init);exact h
theorem preC_len:(preC n init k).length=n:=by simp[preC]
theorem initC_len:(initC n init k l).length=n:=by simp[initC,preC]
theorem preC_alloc(h:k<n):allocAt (preC n init k) 0=some (k,0):=preM_alloc (t:=0) h
theorem preC_get(h:k<n):(preC n init k)[k]?=some ⟨[0,0,0,0],0,false⟩:=by
 have:=preM_get (t:=0) (init:=init) (i:=k) h;rw[show cellC init k k=⟨[0,0,0,0],0,false⟩from by simp[cellC]]at this;exact this
theorem initC_get(h:k<n):(initC n init k l)[k]?=some ⟨pad 4 l,1,true⟩:=by
 unfold initC;rw[List.getElem?_set,if_pos rfl,if_pos (by rw[preC_len];exact h)]
theorem initC_here(h:k<n):hereIn (initC n init k l) k 0=true:=by
 unfold hereIn cellAt;rw[if_neg (by omega),Int.toNat_natCast,initC_get h];rfl
theorem pad_take(h4:l.length≤4)(hj:l[j]?=some v):(pad 4 (l.take j)).set j v=pad 4 (l.take (j+1)):=by
 match l,h4,j,hj with
 |[],_,_,hj=>simp at hj
 |[a],_,0,hj=>cases hj;rfl
 |[a],_,j+1,hj=>simp at hj
 |[a,b],_,0,hj=>cases hj;rfl
 |[a,b],_,1,hj=>cases hj;rfl
 |[a,b],_,j+2,hj=>simp at hj
 |[a,b,c],_,0,hj=>cases hj;rfl
 |[a,b,c],_,1,hj=>cases hj;rfl
 |[a,b,c],_,2,hj=>cases hj;rfl
 |[a,b,c],_,j+3,hj=>simp at hj
 |[a,b,c,d],_,0,hj=>cases hj;rfl
 |[a,b,c,d],_,1,hj=>cases hj;rfl
 |[a,b,c,d],_,2,hj=>cases hj;rfl
 |[a,b,c,d],_,3,hj=>cases hj;rfl
 |[a,b,c,d],_,j+4,hj=>simp at hj
 |a :: b :: c :: d :: e :: r,h4,_,_=>simp at h4
theorem initC_store(h:k<n)(h4:l.length≤4)(hj:l[j]?=some v)(hv:isWord v=true) :
  storeE (initC n init k (l.take j)) k 0 j v=0∧Qs.setWord (initC n init k (l.take j)) k j v=initC n init k (l.take (j+1)):=by
 have hl:j<l.length:=(List.getElem?_eq_some_iff.1 hj).1;constructor
 ·unfold storeE;rw[if_pos (initC_here h),if_pos (by omega),if_pos hv]
 ·unfold Qs.setWord;rw[modify_get _ (initC_get h),pad_take h4 hj];unfold initC;rw[List.set_set]
theorem initC_done(h:k<n)(hl:init[k]?=some l):initC n init k l=preC n init (k+1):=by
 have e:((preC n init k).set k (zeroCell 1)).set k ⟨pad 4 l,1,true⟩=preC n init (k+1):=congrArg M.cells (preM_succ (t:=0) h hl);rw[←e,List.set_set];rfl
theorem cells_ok_set{cs:List Cell}(hc:timesOk cs∧wordsOk cs){c:Cell}(h1:0≤c.times∧c.times≤1000000000)(h2:c.words.length=4)(i:Nat):timesOk (cs.set i c)∧wordsOk (cs.set i c):=by
 have hT:∀(u:Nat) x,(cs.set i c)[u]?=some x→x=c∨cs[u]?=some x:=fun u x hx=>by
  rw[List.getElem?_set]at hx
  split at hx
  ·split at hx
   ·cases hx;exact .inl rfl
   ·cases hx
  ·exact .inr hx
 constructor
 ·intro u x hx
  rcases hT u x hx with rfl|e
  ·exact h1
  ·exact hc.1 u x e
 ·intro u x hx
  rcases hT u x hx with rfl|e
  ·exact h2
  ·exact hc.2 u x e
theorem preC_ok(hi:RowsFine 4 init):timesOk (preC n init k)∧wordsOk (preC n init k):=by
 have h:∀(u:Nat) x,(preC n init k)[u]?=some x→(0≤x.times∧x.times≤1)∧x.words.length=4:=fun u x hx=>by
  unfold preC at hx;rw[List.getElem?_map]at hx;obtain ⟨y,hy,rfl⟩:=Option.map_eq_some_iff.1 hx;unfold cellC
  split
  ·exact ⟨⟨Int.zero_le_ofNat 1,Int.le_refl 1⟩,pad_len (hi.getD y).1⟩
  ·exact ⟨⟨by decide,by decide⟩,rfl⟩
 exact ⟨fun u x hx=>⟨(h u x hx).1.1,Int.le_trans (h u x hx).1.2 (by decide)⟩,fun u x hx=>(h u x hx).2⟩
theorem initC_ok(hi:RowsFine 4 init)(h4:l.length≤4):timesOk (initC n init k l)∧wordsOk (initC n init k l):=
 cells_ok_set (preC_ok hi) ⟨(by decide:(0:Int)≤1),(by decide:(1:Int)≤1000000000)⟩ (pad_len h4) k
end
section
open Go.RowKit Qs Qh
theorem insInfoP:(Tryz.prog.info? 73).map (fun i=>(i.zero,i.size,i.bytes))=some (some (.agg #[.string ⟨#[]⟩,.int .i64 0,.int .i64 0,.int .i64 0,.string ⟨#[]⟩]),5,56):=by kernel_rfl
theorem info_partsP{P:Program}{t:TypeId}{z:Option Value}{s b:Nat}(h:(P.info? t).map (fun i=>(i.zero,i.size,i.bytes))=some (z,s,b)):∃i,P.info? t=some i∧i.zero=z∧i.size=s∧i.bytes=b:=by
 cases e:P.info? t with
 |none=>rw[e]at h;cases h
 |some i=>
  rw[e]at h;simp only[Option.map_some,Option.some.injEq,Prod.mk.injEq]at h;exact ⟨i,rfl,h.1,h.2.1,h.2.2⟩
theorem ins_cells{w:World}{sa:Addr}{c:List Instr}(hx:∀(i:Nat) x,(c.map rawI)[i]?=some x→∃b off,some sa=some ⟨b,off,none⟩∧b<w.heap.size∧w.cell? ⟨b,off+i*5,none⟩=some (.string x.op)∧w.cell? ⟨b,off+i*5+1,none⟩=some (.int .i64 x.A)∧
  w.cell? ⟨b,off+i*5+2,none⟩=some (.int .i64 x.B)∧w.cell? ⟨b,off+i*5+3,none⟩=some (.int .i64 x.C)∧w.cell? ⟨b,off+i*5+4,none⟩=some (.string x.to)) :
  ∀j u,(flat insV 0 c)[j]?=some u→w.cell? (sa.add j)=some u:=fun j u hj=>by
 have hl:(flat insV 0 c).length=c.length*5:=flat_length insV 5 (fun _ _=>rfl) c 0;have hlt:=(List.getElem?_eq_some_iff.1 hj).1;rw[hl]at hlt;obtain ⟨i,r,hr,rfl⟩:∃i r,r<5∧j=i*5+r:=⟨j/5,j % 5,by omega,by omega⟩
 have hic:i<c.length:=by omega
 obtain ⟨y,hy⟩:∃y,c[i]?=some y:=⟨_,List.getElem?_eq_getElem hic⟩;obtain ⟨b,off,e,hb,h0,h1,h2,h3,h4⟩:=hx i (rawI y) (by rw[List.getElem?_map,hy];rfl);cases e;have hg:=flat_get insV 5 (fun _ _=>rfl) hr c 0 i y hy [];rw[List.append_nil]at hg;rw[hg]at hj
 have hadd:∀k,(⟨b,off,none⟩:Addr).add k=⟨b,off+k,none⟩:=fun k=>by unfold Addr.add;split <;> simp_all
 rw[hadd]
 rcases (by omega:r=0∨r=1∨r=2∨r=3∨r=4)with rfl|rfl|rfl|rfl|rfl
 ·cases hj;exact h0
 ·cases hj;exact h1
 ·cases hj;exact h2
 ·cases hj;exact h3
 ·cases hj;exact h4
theorem clone_code{w:World}{v:Value}{c:List Instr}(h:RCode w v (c.map rawI))(hl:c.length≤2000) :
  Calls Tryz.prog 39 #[v] w fun e w'=>∃v',e=.returned v'∧InsRow 73 w' v' c∧Mod noF w w'∧∀g,v'.ownBlock=some g→w.heap.size≤g:=by
 have qT:∀(w:World) (a:Option Addr) (n c n' c':Nat),(binOp .eql 46 (.slice a n c) (.slice none n' c')).run Tryz.prog w=.ok (.bool a.isNone) w:=fun w a n c n' c'=>Lib.run_eql_slice_nil w _ _ a n c n' c' Tryz.underlying46;obtain ⟨i0,hi,hz0,hz1,hz2⟩:=info_partsP insInfoP
 obtain ⟨⟨sa,sc,rfl,hx⟩,-⟩:=h;rw[List.length_map]at *
 cases sa with
 |none=>
  obtain rfl:c=[]:=by
   cases c with
   |nil=>rfl
   |cons y c=>obtain ⟨b,off,e,-⟩:=hx 0 (rawI y) rfl;cases e
  clear hx
  go_enter Tryz.func39,Tryz.ntmps39
  go_wp2;go_ret;exact ⟨_,rfl,⟨rfl,.inl ⟨rfl,rfl⟩⟩,Mod.refl _ _,by simp[Value.ownBlock]⟩
 |some sa=>
  have Hsrc:=Lib.hid (ins_cells hx);have hlen:(flat insV 0 c).length=c.length*5:=flat_length insV 5 (fun _ _=>rfl) c 0;have Hlen:=Lib.hid hlen
  have Hone:=Lib.hid (show ∀u∈flat insV 0 c,u.oneCell'=true from fun u hu=>by
   obtain ⟨j,hj⟩:=List.getElem?_of_mem hu;have hlt:=(List.getElem?_eq_some_iff.1 hj).1;rw[hlen]at hlt;obtain ⟨i,r,hr,rfl⟩:∃i r,r<5∧j=i*5+r:=⟨j/5,j % 5,by omega,by omega⟩
   have hic:i<c.length:=by omega
   obtain ⟨y,hy⟩:∃y,c[i]?=some y:=⟨_,List.getElem?_eq_getElem hic⟩;have hg:=flat_get insV 5 (fun _ _=>rfl) hr c 0 i y hy [];rw[List.append_nil]at hg;rw[hg]at hj
   rcases (by omega:r=0∨r=1∨r=2∨r=3∨r=4)with rfl|rfl|rfl|rfl|rfl <;> (cases hj;rfl))
  have hbnd:0+c.length≤maxLen:=by unfold maxLen;omega
  have hbnd2:(0+c.length)*56≤140737488355328:=by omega
  clear hx hlen
  go_enter Tryz.func39,Tryz.ntmps39
  go_wp2_with (at_builtin;refine wpList_append_mine _ rfl (.tmp 5) (.tmp 6) 46 rfl 73 i0 (.agg #[.string ⟨#[]⟩,.int .i64 0,.int .i64 0,.int .i64 0,.string ⟨#[]⟩]) 5 56 Tryz.underlying46 hi hz0 hz1 hz2 rfl (by decide) (.slice (some ⟨w.heap.size,0,none⟩) 0 0) 0 [] rfl (World.ownsRow_made w #[] 0 (Nat.zero_le _) (by decide) rfl) sa c.length sc (flat insV 0 c) rfl Hlen.out (fun j u hj=>(Mod.refl noF w |>.alloc _).cell (Hsrc.out j u hj) (fun e=>e)) Hone.out hbnd hbnd2 ?_;intro v2 w2 hown2 hgr2 hfr2 hz2';have hm2:Mod noF w w2:=((Mod.refl noF w).alloc (.cells #[] 73)).grown hgr2 (fun k hk hlt=>by simp[Value.ownBlock]at hk;omega);have Hm2:=Lib.hid hm2;have Hown2:=Lib.hid hown2;have Hfr2:=Lib.hid hfr2;clear hm2 hown2 hgr2 hfr2 hz2')
  go_ret;refine ⟨_,rfl,?_,Hm2.out,fun k hk=>?_⟩
  ·have:=Hown2.out
   rwa [Nat.zero_add,List.nil_append]at this
  ·rcases Hfr2.out k hk with e|e
   ·simp[Value.ownBlock]at e;omega
   ·simp at e;omega
end
section
open Go.RowKit Qs Qh
def RCodesAt(w:World)(v:Value)(cs:List (List RI))(cv:Nat→Value):Prop:=
 ∃a c,v=.slice a cs.length c∧∀(i:Nat) l,cs[i]?=some l→∃b off,a=some ⟨b,off,none⟩∧b<w.heap.size∧w.cell? ⟨b,off+i,none⟩=some (cv i)∧RCode w (cv i) l∧True
theorem RCodesAt.keep{w w':World}{v:Value}{cs:List (List RI)}{cv:Nat→Value}(h:RCodesAt w v cs cv)(hM:Mod noF w w'):RCodesAt w' v cs cv:=by
 obtain ⟨a,c,e,hx⟩:=h;refine ⟨a,c,e,fun i l hi=>?_⟩;obtain ⟨b,off,e1,hb,hc,hr,ho⟩:=hx i l hi;exact ⟨b,off,e1,Nat.lt_of_lt_of_le hb hM.size,hM.cell hc (fun e=>e),hr.keep hM,ho⟩
theorem rows_keep0{w w':World}{v:Value}{ll:List (List Int)}(h:RowsAt0 w v ll)(hM:Mod noF w w'):RowsAt0 w' v ll:=h.keep hM.toBelow
theorem vast_any(n:Int)(iw rw_ cw:Value)(init regs:List (List Int))(codes:List (List RI))(cv:Nat→Value)(w:World)(hI:RowsAt0 w iw init)(hR:RowsAt0 w rw_ regs)(hC:RCodesAt w cw codes cv)
  (li:init.length≤maxLen) (lr:regs.length≤maxLen) (lc:codes.length≤maxLen) (lk:∀l∈codes,l.length≤maxLen) :
  Calls Tryz.prog 9 #[.agg #[.int .i64 n,iw,rw_],cw] w fun e w'=>(∃k:Int,e=.returned (.int .i64 k))∧Mod noF w w':=by
 have HI:=Lib.hid hI;have HR:=Lib.hid hR;have HC:=Lib.hid hC;obtain ⟨ia,ic,rfl,-⟩:=hI;obtain ⟨ra,rc,rfl,-⟩:=hR;obtain ⟨ca,cc,rfl,-⟩:=hC;unfold maxLen at li lr lc lk;have Lk:=Lib.hid lk;clear lk
 go_enter Tryz.func9,Tryz.ntmps9
 go_wp2;obtain ⟨wz,hwz⟩:∃wz,wz=w.alloc (.cells #[.int .i64 n,.slice ia init.length ic,.slice ra regs.length rc] 24):=⟨_,rfl⟩
 have hmz:Mod noF w wz:=by rw[hwz];exact (Mod.refl noF w).alloc _
 have s1:wz.cell? ⟨w.heap.size,1,none⟩=some (.slice ia init.length ic):=by rw[hwz];simp
 have s2:wz.cell? ⟨w.heap.size,2,none⟩=some (.slice ra regs.length rc):=by rw[hwz];simp
 have sb:w.heap.size<wz.heap.size:=by rw[hwz];simp
 rw[←hwz];have Hmz:=Lib.hid hmz;clear hwz hmz
 go_loopw [5,6] (fun v i wr=>∃(k:Nat) (z:Int),k≤init.length∧i=.int .i64 k∧v=.int .i64 z∧Mod noF wz wr) (fun _ i _=>init.length - (intOf i).toNat)
 case atStart=>exact ⟨0,_,Nat.zero_le _,rfl,rfl,Mod.refl _ _⟩
 case round=>
  obtain ⟨k,z,hk,rfl,rfl,hm⟩:=hrel;have q1:=hm.cell s1 (fun e=>e);have qb:w.heap.size<wr.heap.size:=Nat.lt_of_lt_of_le sb hm.size
  by_cases hlt:k<init.length
  ·have hd:decide ((k:Int)<(init.length:Int))=true:=by simp;omega
   have hki:(k:Int)<(init.length:Int):=by omega
   obtain ⟨l,hl⟩:∃l,init[k]?=some l:=⟨_,List.getElem?_eq_getElem hlt⟩;obtain ⟨ia',ic',e',hx⟩:=rows_keep0 HI.out (Hmz.out.trans0 hm);cases e';obtain ⟨b,off,u,rfl,hb,hc,hu,-⟩:=hx k l hl;obtain ⟨ua,uc,rfl,-⟩:=hu.at_;have Hm:=Lib.hid hm;clear hx hu hm hl;go_wp2
   go_roundw
   case rel=>exact ⟨k+1,_,by omega,by go_num,rfl,Hm.out⟩
   case measure=>simp[intOf];omega
  ·have hd:decide ((k:Int)<(init.length:Int))=false:=by simp;omega
   have Hm:=Lib.hid hm;clear hm;have q2:=Hm.out.cell s2 (fun e=>e);obtain ⟨wq,rfl⟩:∃wq:World,wq=wr:=⟨_,rfl⟩;go_wp2
   go_loopw [5,7] (fun v i wr=>∃(k:Nat) (z:Int),k≤regs.length∧i=.int .i64 k∧v=.int .i64 z∧Mod noF wq wr) (fun _ i _=>regs.length - (intOf i).toNat)
   case atStart=>exact ⟨0,_,Nat.zero_le _,rfl,rfl,Mod.refl _ _⟩
   case round=>
    obtain ⟨k,z,hk,rfl,rfl,hm⟩:=hrel;have q1:=hm.cell q2 (fun e=>e);have qb:w.heap.size<wr.heap.size:=Nat.lt_of_lt_of_le qb hm.size
    by_cases hlt:k<regs.length
    ·have hd:decide ((k:Int)<(regs.length:Int))=true:=by simp;omega
     have hki:(k:Int)<(regs.length:Int):=by omega
     obtain ⟨l,hl⟩:∃l,regs[k]?=some l:=⟨_,List.getElem?_eq_getElem hlt⟩;obtain ⟨ia',ic',e',hx⟩:=rows_keep0 HR.out ((Hmz.out.trans0 Hm.out).trans0 hm);cases e';obtain ⟨b,off,u,rfl,hb,hc,hu,-⟩:=hx k l hl;obtain ⟨ua,uc,rfl,-⟩:=hu.at_;have Hm2:=Lib.hid hm;clear hx hu hm hl;go_wp2
     go_roundw
     case rel=>exact ⟨k+1,_,by omega,by go_num,rfl,Hm2.out⟩
     case measure=>simp[intOf];omega
    ·have hd:decide ((k:Int)<(regs.length:Int))=false:=by simp;omega
     have Hm2:=Lib.hid hm;clear hm;obtain ⟨wp,rfl⟩:∃wp:World,wp=wr:=⟨_,rfl⟩;go_wp2
     go_loopw [5,8] (fun v i wr=>∃(k:Nat) (z:Int),k≤codes.length∧i=.int .i64 k∧v=.int .i64 z∧Mod noF wp wr) (fun _ i _=>codes.length - (intOf i).toNat)
     case atStart=>exact ⟨0,_,Nat.zero_le _,rfl,rfl,Mod.refl _ _⟩
     case round=>
      obtain ⟨k,z,hk,rfl,rfl,hm⟩:=hrel
      by_cases hlt:k<codes.length
      ·have hd:decide ((k:Int)<(codes.length:Int))=true:=by simp;omega
       have hki:(k:Int)<(codes.length:Int):=by omega
       obtain ⟨l,hl⟩:∃l,codes[k]?=some l:=⟨_,List.getElem?_eq_getElem hlt⟩;have hll:=Lk.out l (List.mem_of_getElem? hl);obtain ⟨ia',ic',e',hx⟩:=HC.out.keep (((Hmz.out.trans0 Hm.out).trans0 Hm2.out).trans0 hm);cases e';obtain ⟨b,off,rfl,hb,hc,hu,-⟩:=hx k l hl;obtain ⟨wo,rfl⟩:∃wo:World,wo=wr:=⟨_,rfl⟩
       have Hu:=Lib.hid hu;obtain ⟨⟨ua,uc,ec,-⟩,-⟩:=hu;rw[ec]at hc;have Hec:=Lib.hid ec;have Hm3:=Lib.hid hm;clear hx hm hl ec;go_wp2
       go_loopw [5,9] (fun v i wr=>∃(j:Nat) (z:Int),j≤l.length∧i=.int .i64 j∧v=.int .i64 z∧Mod noF wo wr) (fun _ i _=>l.length - (intOf i).toNat)
       case atStart=>exact ⟨0,_,Nat.zero_le _,rfl,rfl,Mod.refl _ _⟩
       case round=>
        obtain ⟨j,z,hj,rfl,rfl,hm⟩:=hrel;have q4:=hm.cell hc (fun e=>e);have q4b:=Nat.lt_of_lt_of_le hb hm.size
        by_cases hlt2:j<l.length
        ·have hd2:decide ((j:Int)<(l.length:Int))=true:=by simp;omega
         have hji:(j:Int)<(l.length:Int):=by omega
         obtain ⟨x,hx⟩:∃x,l[j]?=some x:=⟨_,List.getElem?_eq_getElem hlt2⟩;obtain ⟨⟨ua',uc',e',hy⟩,-⟩:=Hu.out.keep hm;rw[Hec.out]at e';cases e';obtain ⟨b2,off2,rfl,hb2,c0,-,-,-,c4⟩:=hy j x hx;have Hm4:=Lib.hid hm;clear hy hm hx;go_wp2
         go_quiet (fail)
         go_wp2
         go_roundw
         case rel=>exact ⟨j+1,_,by omega,by go_num,rfl,by first|exact Hm4.out.drew|exact Hm4.out|exact Hm4.out.drewN _⟩
         case measure=>simp[intOf];omega
        ·have hd2:decide ((j:Int)<(l.length:Int))=false:=by simp;omega
         have Hm4:=Lib.hid (Hm3.out.trans0 hm);clear hm;go_wp2
         go_roundw
         case rel=>exact ⟨k+1,_,by omega,by go_num,rfl,Hm4.out⟩
         case measure=>simp[intOf];omega
      ·have hd:decide ((k:Int)<(codes.length:Int))=false:=by simp;omega
       have Hm3:=Lib.hid (((Hmz.out.trans0 Hm.out).trans0 Hm2.out).trans0 hm);clear hm
       by_cases h6:(600:Int)<z
       ·have hd6:decide ((600:Int)<z)=true:=by simpa using h6
        go_wp2;go_ret;exact ⟨⟨_,rfl⟩,Hm3.out⟩
       ·have hd6:decide ((600:Int)<z)=false:=by simpa using h6
        go_wp2;go_ret;exact ⟨⟨_,rfl⟩,Hm3.out⟩
end
section
open Go.RowKit Qs Qh
theorem coded_self{w:World}{a:Nat→Addr}(E:ErrsAt w a)(e:Int)(h0:0≤e)(h9:e≤9):Calls Tryz.prog 13 #[errOf' a e,.int .i64 e] w fun r w'=>r=.returned (.bool true)∧Mod noF w w':=by
 by_cases h:e=0
 ·subst h;exact (coded_nil 0 w).mono fun _ _ h=>⟨by rw[h.1];rfl,by rw[h.2];exact Mod.refl _ _⟩
 ·unfold errOf';rw[if_neg h];refine (coded_at E (e.toNat - 1) (by omega) e).mono fun _ _ g=>⟨?_,g.2⟩;rw[g.1]
  have:e=((e.toNat - 1:Nat):Int)+1:=by omega
  rw[decide_eq_true this]
end
section
open Go.RowKit Qs Qh
variable {w w':World}
def shS(k:Nat):ByteArray:=⟨(nK k++(if lK k then [108]else [])).toArray⟩
theorem shape_k(k:Nat)(hk:k<21)(w:World):Calls Tryz.prog 124 #[.string (opStr k)] w fun e w'=>e=.returned (.tuple #[.string (shS k),.bool true])∧w=w':=by
 rcases op_cases k with rfl|rfl|rfl|rfl|rfl|rfl|rfl|rfl|rfl|rfl|rfl|rfl|rfl|rfl|rfl|rfl|rfl|rfl|rfl|rfl|h
 ·exact shape_const w
 ·exact shape_move w
 ·exact shape_add w
 ·exact shape_sub w
 ·exact shape_and w
 ·exact shape_xor w
 ·exact shape_load w
 ·exact shape_store w
 ·exact shape_swap w
 ·exact shape_cas w
 ·exact shape_alloc w
 ·exact shape_free w
 ·exact shape_fence w
 ·exact shape_force w
 ·exact shape_zero w
 ·exact shape_same w
 ·exact shape_goto w
 ·exact shape_label w
 ·exact shape_mark w
 ·exact shape_need w
 ·obtain rfl:k=20:=by omega
  exact shape_stop w
theorem shape_no{s:ByteArray}(h:opIx s=none)(w:World):Calls Tryz.prog 124 #[.string s] w fun e w'=>e=.returned (.tuple #[.string ⟨#[]⟩,.bool false])∧w=w':=by
 have hn:∀k,k<21→(s.toList==(opStr k).data.toList)=false:=fun k hk=>by
  rw[beq_eq_false_iff_ne,Lib.toList_data];intro e;exact opIx_none h k hk (ByteArray.ext (Array.toList_inj.1 e.symm))
 have k0:(s.toList==[99,111,110,115,116])=false:=hn 0 (by decide);have k1:(s.toList==[109,111,118,101])=false:=hn 1 (by decide);have k2:(s.toList==[97,100,100])=false:=hn 2 (by decide);have k3:(s.toList==[115,117,98])=false:=hn 3 (by decide);have k4:(s.toList==[97,110,100])=false:=hn 4 (by decide)
 have k5:(s.toList==[120,111,114])=false:=hn 5 (by decide);have k6:(s.toList==[108,111,97,100])=false:=hn 6 (by decide);have k7:(s.toList==[115,116,111,114,101])=false:=hn 7 (by decide);have k8:(s.toList==[115,119,97,112])=false:=hn 8 (by decide)
 have k9:(s.toList==[99,97,115])=false:=hn 9 (by decide);have k10:(s.toList==[97,108,108,111,99])=false:=hn 10 (by decide);have k11:(s.toList==[102,114,101,101])=false:=hn 11 (by decide);have k12:(s.toList==[102,101,110,99,101])=false:=hn 12 (by decide)
 have k13:(s.toList==[102,111,114,99,101])=false:=hn 13 (by decide);have k14:(s.toList==[122,101,114,111])=false:=hn 14 (by decide);have k15:(s.toList==[115,97,109,101])=false:=hn 15 (by decide);have k16:(s.toList==[103,111,116,111])=false:=hn 16 (by decide)
 have k17:(s.toList==[108,97,98,101,108])=false:=hn 17 (by decide);have k18:(s.toList==[109,97,114,107])=false:=hn 18 (by decide);have k19:(s.toList==[110,101,101,100])=false:=hn 19 (by decide);have k20:(s.toList==[115,116,111,112])=false:=hn 20 (by decide);clear hn h
 go_enter Tryz.func124,Tryz.ntmps124
 go_wp2;go_ret2;exact ⟨rfl,rfl⟩
theorem ie_no{op to:ByteArray}(A B C:Int)(w:World)(hk:opIx op=none) :
  Calls Tryz.prog 105 #[riV ⟨op,A,B,C,to⟩] w fun e w'=>e=.returned (.int .i64 3)∧Mod noF w w':=by
 have Hk:=Lib.hid hk;unfold riV;clear hk
 go_enter Tryz.func105,Tryz.ntmps105
 go_wp2_with fail
 refine (shape_no Hk.out _).mono ?_;rintro e w' ⟨rfl,rfl⟩;go_wp2;go_ret;exact ⟨rfl,(Mod.refl noF w).alloc _⟩
theorem fit_r{n:Int}:fitB 114 n=regB n 8:=rfl
theorem fit_s{n:Int}:fitB 115 n=regB n 7:=rfl
theorem fit_w{n:Int}:fitB 119 n=regB n 4:=rfl
theorem fit_v{n:Int}:fitB 118 n=regB n 4294967296:=rfl
theorem regB_t{n k:Int}(h0:0≤n)(h1:n<k):regB n k=true:=by unfold regB;simp[h0,h1]
theorem regB_f0{n k:Int}(h:n<0):regB n k=false:=by unfold regB;simp;omega
theorem regB_f1{n k:Int}(h:k≤n):regB n k=false:=by unfold regB;simp;omega
theorem ie_some{k:Nat}(hk:k<21){to:ByteArray}(hto:to.size≤maxLen)(A B C:Int)(w:World) :
  Calls Tryz.prog 105 #[riV ⟨opStr k,A,B,C,to⟩] w fun e w'=>e=.returned (.int .i64 (oneE ⟨opStr k,A,B,C,to⟩))∧Mod noF w w':=by
 have hone:oneE ⟨opStr k,A,B,C,to⟩=if !lK k && !to.toList.isEmpty then 3 else if restB k A B C then 3 else if badB k A B C then 2 else if lK k && !nameB to.toList then 4 else 0:=by
  unfold oneE;simp only;rw[opIx_str hk]
 rw[hone];have hf:=shape_k k hk;obtain ⟨hn3,hnk⟩:=nK_facts k;have Hrf:=Lib.hid (@rest_false k A B C);have Hrt:=Lib.hid (fun (j:Nat) (n:Int)=>@rest_true k A B C j n);have Hbf:=Lib.hid (@bad_false k A B C);have Hbt:=Lib.hid (fun (j:Nat) (c:UInt8) (n:Int)=>@bad_true k A B C j c n);unfold shS at hf
 generalize hop:opStr k=op at *;generalize restB k A B C=rb at *;generalize badB k A B C=bb at *;generalize nK k=ns at *;generalize lK k=lb at *;obtain ⟨s,hs⟩:∃s:ByteArray,s=⟨(ns++if lb then [108]else []).toArray⟩:=⟨_,rfl⟩
 have hsn:s.data.toList=ns++(if lb then [108]else []):=by rw[hs]
 obtain ⟨n,hnl⟩:∃n,n=ns.length:=⟨_,rfl⟩
 have hsl:s.size=n+(if lb then 1 else 0):=by
  rw[←bytes_len,hsn,List.length_append,hnl];cases lb <;> rfl
 rw[←hs]at hf;rw[←hnl]at Hrf Hrt hn3
 have hch:∀(j:Nat) (h:j<s.size),j<n→ns[j]?=some s[j]∧(s[j]=114∨s[j]=115∨s[j]=118∨s[j]=119):=fun j h hj=>by
  have g:=bytes_get s j h;rw[hsn,List.getElem?_append_left (by omega)]at g;exact ⟨g,hnk _ (List.mem_of_getElem? g)⟩
 have hlast:∀(h:n<s.size),s[n]=108:=fun h=>by
  have g:=bytes_get s n h;rw[hsn,List.getElem?_append_right (by omega),show n - ns.length=0 by omega]at g
  cases lb with
  |true=>exact (Option.some.inj g).symm
  |false=>simp at g
 have Hch:=Lib.hid hch;have Hlast:=Lib.hid hlast;have Hf:=Lib.hid hf;have Hns:=Lib.hid hnl;unfold riV;clear hs hsn hf hone hop hk hnk hch hlast hnl;simp only
 have e1:(to.toList.isEmpty)=(to.toList==[]):=by cases to.toList <;> rfl
 go_enter Tryz.func105,Tryz.ntmps105
 go_wp2_with fail
 refine (Hf.out _).mono ?_;rintro e w' ⟨rfl,rfl⟩
 go_wp2_with fail
 refine (numbers_any _ _ _ _ _ _).mono ?_;rintro e w1 ⟨g,rfl,hg,n0,n1,n2,hm1⟩;have b4:w1.cell? ⟨w.heap.size,4,none⟩=some (.string to):=hm1.cell (by simp) (fun e=>e)
 have hlt:w.heap.size<w1.heap.size:=by have:=hm1.size;simp at this;omega
 have hcell:∀q,q<3→∃x,[A,B,C][q]?=some x∧w1.cell? ⟨g,q,none⟩=some (.int .i64 x):=fun q hq=>by
  rcases (by omega:q=0∨q=1∨q=2)with rfl|rfl|rfl
  ·exact ⟨_,rfl,n0⟩
  ·exact ⟨_,rfl,n1⟩
  ·exact ⟨_,rfl,n2⟩
 have Hl:=Lib.hid hcell;have Hm:=Lib.hid (((Mod.refl noF w).alloc (.cells #[.string op,.int .i64 A,.int .i64 B,.int .i64 C,.string to] 73)).trans0 hm1);clear hm1 hcell n0 n1 n2 Hf;go_wp2
 go_loop [6,7,8] (fun m b i=>∃j:Nat,j≤s.size∧i=.int .i64 j∧m=.int .i64 (Nat.min j n:Nat)∧b=.bool (decide (n<j))) (fun _ _ i=>s.size - (intOf i).toNat)
 case atStart=>exact ⟨0,Nat.zero_le _,rfl,by simp,by simp⟩
 case round=>
  obtain ⟨j,hj,rfl,rfl,rfl⟩:=hrel
  by_cases hjl:j<s.size
  ·have hd:decide ((j:Int)<(s.size:Int))=true:=by simp;omega
   have hji:(j:Int)<(s.size:Int):=by omega
   by_cases hjn:j<n
   ·obtain ⟨-,hc⟩:=Hch.out j hjl hjn
    have h108:((s[j].toNat:Int)==108)=false:=by rcases hc with h|h|h|h <;> (rw[h];rfl)
    have h108d:decide ((s[j].toNat:Int)=108)=false:=by rcases hc with h|h|h|h <;> (rw[h];rfl)
    have hmin:Nat.min j n=j:=Nat.min_eq_left (by omega)
    have hdn:decide (n<j)=false:=by simp;omega
    rw[hmin,hdn];clear hc;go_wp2
    go_round
    case rel=>exact ⟨j+1,by omega,by go_num,by rw[show Nat.min (j+1) n=j+1 from Nat.min_eq_left (by omega)];go_num,by congr 1;symm;simp;omega⟩
    case measure=>simp[intOf];omega
   ·obtain rfl:j=n:=by cases lb <;> simp at hsl <;> omega
    have hc:=Hlast.out hjl
    have h108:((s[j].toNat:Int)==108)=true:=by rw[hc];rfl
    have h108d:decide ((s[j].toNat:Int)=108)=true:=by rw[hc];rfl
    have hmin:Nat.min j j=j:=Nat.min_self j
    have hdn:decide (j<j)=false:=by simp
    rw[hmin,hdn];clear hc;go_wp2
    go_round
    case rel=>exact ⟨j+1,by omega,by go_num,by rw[show Nat.min (j+1) j=j from Nat.min_eq_right (by omega)],by congr 1;symm;simp⟩
    case measure=>simp[intOf];omega
  ·have hd:decide ((j:Int)<(s.size:Int))=false:=by simp;omega
   obtain rfl:j=s.size:=by omega
   have hmin:Nat.min s.size n=n:=Nat.min_eq_right (by omega)
   have hdn:decide (n<s.size)=lb:=by cases lb <;> simp at hsl <;> simp <;> omega
   rw[hmin,hdn]
   cases hb : !lb && !to.toList.isEmpty with
   |true=>
    obtain rfl:lb=false:=by cases lb <;> simp_all
    have e2:to.toList.isEmpty=false:=by simpa using hb
    have e3:(to.toList==[])=false:=by rw[←e1];exact e2
    have e4:¬to.toList=[]:=by simpa using e3
    clear e1 hb;go_wp2;go_ret;exact ⟨by first|rfl|(simp only[e2];rfl),Hm.out⟩
   |false=>
    cases lb with
    |true=>
     clear e1 hb;go_wp2
     go_loop [9] (fun i=>∃j:Nat,n≤j∧j≤3∧i=.int .i64 j∧∀(q:Nat) x,n≤q→q<j→[A,B,C][q]?=some x→x=0) (fun i=>3 - (intOf i).toNat)
     case atStart=>exact ⟨n,Nat.le_refl _,hn3,rfl,fun q x h1 h2=>absurd h2 (by omega)⟩
     case round=>
      obtain ⟨j,hnj,hj,rfl,hz⟩:=hrel;have Hz:=Lib.hid hz;clear hz
      by_cases hj3:j<3
      ·obtain ⟨x,hx,hc⟩:=Hl.out j hj3
       have hd:decide ((j:Int)<3)=true:=by simp;omega
       have hji:(j:Int)<3:=by omega
       by_cases h0:x=0
       ·subst h0;go_wp2
        go_round
        case rel=>exact ⟨j+1,by omega,by omega,by go_num,fun q y h1 h2 h3=>by
         by_cases e:q=j
         ·subst e;rw[hx]at h3;exact (Option.some.inj h3).symm
         ·exact Hz.out q y h1 (by omega) h3⟩
        case measure=>simp[intOf];omega
       ·have hd0:(x==0)=false:=by simpa using h0
        have hd1:decide (x=0)=false:=by simpa using h0
        have hrb:=Hrt.out j x hnj hx h0;clear Hz;go_wp2;go_ret;exact ⟨by first|rfl|(simp only[hrb];rfl),Hm.out⟩
      ·have hd:decide ((j:Int)<3)=false:=by simp;omega
       have hrb:=Hrf.out fun q y h1 h2=>Hz.out q y h1 (by have:=(List.getElem?_eq_some_iff.1 h2).1;simp at this;omega) h2;clear Hz;go_wp2
       go_loop [10] (fun i=>∃j:Nat,j≤n∧i=.int .i64 j∧∀(q:Nat) c x,q<j→ns[q]?=some c→[A,B,C][q]?=some x→fitB c x=true) (fun i=>n - (intOf i).toNat)
       case atStart=>exact ⟨0,Nat.zero_le _,rfl,fun q c x h=>absurd h (by omega)⟩
       case round=>
        obtain ⟨j,hj,rfl,hz⟩:=hrel;have Hz:=Lib.hid hz;clear hz
        by_cases hjn:j<n
        ·obtain ⟨x,hx,hcx⟩:=Hl.out j (by omega)
         have hd:decide ((j:Int)<(n:Int))=true:=by simp;omega
         have hji:(j:Int)<(n:Int):=by omega
         have hj3i:(j:Int)<3:=by omega
         have hjs:j<s.size:=by omega
         have hjsi:(j:Int)<(s.size:Int):=by omega
         obtain ⟨hgj,hc⟩:=Hch.out j hjs hjn
         rcases hc with hc|hc|hc|hc
         ·have q114:((s[j].toNat:Int)==114)=true:=by rw[hc];rfl
          have d114:decide ((s[j].toNat:Int)=114)=true:=by rw[hc];rfl
          have q115:((s[j].toNat:Int)==115)=false:=by rw[hc];rfl
          have d115:decide ((s[j].toNat:Int)=115)=false:=by rw[hc];rfl
          have q119:((s[j].toNat:Int)==119)=false:=by rw[hc];rfl
          have d119:decide ((s[j].toNat:Int)=119)=false:=by rw[hc];rfl
          by_cases x0:x<0
          ·have dx:decide (x<0)=true:=by simpa using x0
           have hfb:fitB s[j] x=false:=by rw[hc,fit_r];exact regB_f0 x0
           have hbb:=Hbt.out j _ x hgj hx hfb;clear hgj hfb Hz;go_wp2;go_ret;exact ⟨by first|rfl|(simp only[hrb,hbb];rfl),Hm.out⟩
          ·have dx:decide (x<0)=false:=by simpa using x0
           by_cases x1:8≤x
           ·have dy:decide (8≤x)=true:=by simpa using x1
            have hfb:fitB s[j] x=false:=by rw[hc,fit_r];exact regB_f1 x1
            have hbb:=Hbt.out j _ x hgj hx hfb;clear hgj hfb Hz;go_wp2;go_ret;exact ⟨by first|rfl|(simp only[hrb,hbb];rfl),Hm.out⟩
           ·have dy:decide (8≤x)=false:=by simpa using x1
            have hfb:fitB s[j] x=true:=by rw[hc,fit_r];exact regB_t (by omega) (by omega)
            have Hgj:=Lib.hid hgj;have Hfb:=Lib.hid hfb;clear hgj hfb;go_wp2
            go_round
            case rel=>exact ⟨j+1,by omega,by go_num,fun q c y h1 h2 h3=>by
             by_cases e:q=j
             ·subst e;rw[Hgj.out]at h2;cases h2;rw[hx]at h3;cases h3;exact Hfb.out
             ·exact Hz.out q c y (by omega) h2 h3⟩
            case measure=>simp[intOf];omega
         ·have q114:((s[j].toNat:Int)==114)=false:=by rw[hc];rfl
          have d114:decide ((s[j].toNat:Int)=114)=false:=by rw[hc];rfl
          have q115:((s[j].toNat:Int)==115)=true:=by rw[hc];rfl
          have d115:decide ((s[j].toNat:Int)=115)=true:=by rw[hc];rfl
          have q119:((s[j].toNat:Int)==119)=false:=by rw[hc];rfl
          have d119:decide ((s[j].toNat:Int)=119)=false:=by rw[hc];rfl
          by_cases x0:x<0
          ·have dx:decide (x<0)=true:=by simpa using x0
           have hfb:fitB s[j] x=false:=by rw[hc,fit_s];exact regB_f0 x0
           have hbb:=Hbt.out j _ x hgj hx hfb;clear hgj hfb Hz;go_wp2;go_ret;exact ⟨by first|rfl|(simp only[hrb,hbb];rfl),Hm.out⟩
          ·have dx:decide (x<0)=false:=by simpa using x0
           by_cases x1:7≤x
           ·have dy:decide (7≤x)=true:=by simpa using x1
            have hfb:fitB s[j] x=false:=by rw[hc,fit_s];exact regB_f1 x1
            have hbb:=Hbt.out j _ x hgj hx hfb;clear hgj hfb Hz;go_wp2;go_ret;exact ⟨by first|rfl|(simp only[hrb,hbb];rfl),Hm.out⟩
           ·have dy:decide (7≤x)=false:=by simpa using x1
            have hfb:fitB s[j] x=true:=by rw[hc,fit_s];exact regB_t (by omega) (by omega)
            have Hgj:=Lib.hid hgj;have Hfb:=Lib.hid hfb;clear hgj hfb;go_wp2
            go_round
            case rel=>exact ⟨j+1,by omega,by go_num,fun q c y h1 h2 h3=>by
             by_cases e:q=j
             ·subst e;rw[Hgj.out]at h2;cases h2;rw[hx]at h3;cases h3;exact Hfb.out
             ·exact Hz.out q c y (by omega) h2 h3⟩
            case measure=>simp[intOf];omega
         ·have q114:((s[j].toNat:Int)==114)=false:=by rw[hc];rfl
          have d114:decide ((s[j].toNat:Int)=114)=false:=by rw[hc];rfl
          have q115:((s[j].toNat:Int)==115)=false:=by rw[hc];rfl
          have d115:decide ((s[j].toNat:Int)=115)=false:=by rw[hc];rfl
          have q119:((s[j].toNat:Int)==119)=false:=by rw[hc];rfl
          have d119:decide ((s[j].toNat:Int)=119)=false:=by rw[hc];rfl
          by_cases x0:x<0
          ·have dx:decide (x<0)=true:=by simpa using x0
           have hfb:fitB s[j] x=false:=by rw[hc,fit_v];exact regB_f0 x0
           have hbb:=Hbt.out j _ x hgj hx hfb;clear hgj hfb Hz;go_wp2;go_ret;exact ⟨by first|rfl|(simp only[hrb,hbb];rfl),Hm.out⟩
          ·have dx:decide (x<0)=false:=by simpa using x0
           by_cases x1:4294967296≤x
           ·have dy:decide (4294967296≤x)=true:=by simpa using x1
            have hfb:fitB s[j] x=false:=by rw[hc,fit_v];exact regB_f1 x1
            have hbb:=Hbt.out j _ x hgj hx hfb;clear hgj hfb Hz;go_wp2;go_ret;exact ⟨by first|rfl|(simp only[hrb,hbb];rfl),Hm.out⟩
           ·have dy:decide (4294967296≤x)=false:=by simpa using x1
            have hfb:fitB s[j] x=true:=by rw[hc,fit_v];exact regB_t (by omega) (by omega)
            have Hgj:=Lib.hid hgj;have Hfb:=Lib.hid hfb;clear hgj hfb;go_wp2
            go_round
            case rel=>exact ⟨j+1,by omega,by go_num,fun q c y h1 h2 h3=>by
             by_cases e:q=j
             ·subst e;rw[Hgj.out]at h2;cases h2;rw[hx]at h3;cases h3;exact Hfb.out
             ·exact Hz.out q c y (by omega) h2 h3⟩
            case measure=>simp[intOf];omega
         ·have q114:((s[j].toNat:Int)==114)=false:=by rw[hc];rfl
          have d114:decide ((s[j].toNat:Int)=114)=false:=by rw[hc];rfl
          have q115:((s[j].toNat:Int)==115)=false:=by rw[hc];rfl
          have d115:decide ((s[j].toNat:Int)=115)=false:=by rw[hc];rfl
          have q119:((s[j].toNat:Int)==119)=true:=by rw[hc];rfl
          have d119:decide ((s[j].toNat:Int)=119)=true:=by rw[hc];rfl
          by_cases x0:x<0
          ·have dx:decide (x<0)=true:=by simpa using x0
           have hfb:fitB s[j] x=false:=by rw[hc,fit_w];exact regB_f0 x0
           have hbb:=Hbt.out j _ x hgj hx hfb;clear hgj hfb Hz;go_wp2;go_ret;exact ⟨by first|rfl|(simp only[hrb,hbb];rfl),Hm.out⟩
          ·have dx:decide (x<0)=false:=by simpa using x0
           by_cases x1:4≤x
           ·have dy:decide (4≤x)=true:=by simpa using x1
            have hfb:fitB s[j] x=false:=by rw[hc,fit_w];exact regB_f1 x1
            have hbb:=Hbt.out j _ x hgj hx hfb;clear hgj hfb Hz;go_wp2;go_ret;exact ⟨by first|rfl|(simp only[hrb,hbb];rfl),Hm.out⟩
           ·have dy:decide (4≤x)=false:=by simpa using x1
            have hfb:fitB s[j] x=true:=by rw[hc,fit_w];exact regB_t (by omega) (by omega)
            have Hgj:=Lib.hid hgj;have Hfb:=Lib.hid hfb;clear hgj hfb;go_wp2
            go_round
            case rel=>exact ⟨j+1,by omega,by go_num,fun q c y h1 h2 h3=>by
             by_cases e:q=j
             ·subst e;rw[Hgj.out]at h2;cases h2;rw[hx]at h3;cases h3;exact Hfb.out
             ·exact Hz.out q c y (by omega) h2 h3⟩
            case measure=>simp[intOf];omega
        ·have hd:decide ((j:Int)<(n:Int))=false:=by simp;omega
         have hbb:=Hbf.out fun q c x h1 h2=>Hz.out q c x (by have:=(List.getElem?_eq_some_iff.1 h1).1;have:=Hns.out;omega) h1 h2;clear Hz
         cases hnb:nameB to.toList with
         |true=>
          go_wp2_with fail
          refine (isName_any to _ hto).mono ?_;rintro e w' ⟨rfl,rfl⟩;rw[←Lib.toList_data,hnb];go_wp2;go_ret;exact ⟨by first|rfl|(simp only[hrb,hbb];rfl),Hm.out⟩
         |false=>
          go_wp2_with fail
          refine (isName_any to _ hto).mono ?_;rintro e w' ⟨rfl,rfl⟩;rw[←Lib.toList_data,hnb];go_wp2;go_ret;exact ⟨by first|rfl|(simp only[hrb,hbb];rfl),Hm.out⟩
    |false=>
     have e2:to.toList.isEmpty=true:=by simpa using hb
     have e3:(to.toList==[])=true:=by rw[←e1];exact e2
     have e4:to.toList=[]:=by simpa using e3
     clear e1 hb;go_wp2
     go_loop [9] (fun i=>∃j:Nat,n≤j∧j≤3∧i=.int .i64 j∧∀(q:Nat) x,n≤q→q<j→[A,B,C][q]?=some x→x=0) (fun i=>3 - (intOf i).toNat)
     case atStart=>exact ⟨n,Nat.le_refl _,hn3,rfl,fun q x h1 h2=>absurd h2 (by omega)⟩
     case round=>
      obtain ⟨j,hnj,hj,rfl,hz⟩:=hrel;have Hz:=Lib.hid hz;clear hz
      by_cases hj3:j<3
      ·obtain ⟨x,hx,hc⟩:=Hl.out j hj3
       have hd:decide ((j:Int)<3)=true:=by simp;omega
       have hji:(j:Int)<3:=by omega
       by_cases h0:x=0
       ·subst h0;go_wp2
        go_round
        case rel=>exact ⟨j+1,by omega,by omega,by go_num,fun q y h1 h2 h3=>by
         by_cases e:q=j
         ·subst e;rw[hx]at h3;exact (Option.some.inj h3).symm
         ·exact Hz.out q y h1 (by omega) h3⟩
        case measure=>simp[intOf];omega
       ·have hd0:(x==0)=false:=by simpa using h0
        have hd1:decide (x=0)=false:=by simpa using h0
        have hrb:=Hrt.out j x hnj hx h0;clear Hz;go_wp2;go_ret;exact ⟨by first|rfl|(simp only[hrb];rfl),Hm.out⟩
      ·have hd:decide ((j:Int)<3)=false:=by simp;omega
       have hrb:=Hrf.out fun q y h1 h2=>Hz.out q y h1 (by have:=(List.getElem?_eq_some_iff.1 h2).1;simp at this;omega) h2;clear Hz;go_wp2
       go_loop [10] (fun i=>∃j:Nat,j≤n∧i=.int .i64 j∧∀(q:Nat) c x,q<j→ns[q]?=some c→[A,B,C][q]?=some x→fitB c x=true) (fun i=>n - (intOf i).toNat)
       case atStart=>exact ⟨0,Nat.zero_le _,rfl,fun q c x h=>absurd h (by omega)⟩
       case round=>
        obtain ⟨j,hj,rfl,hz⟩:=hrel;have Hz:=Lib.hid hz;clear hz
        by_cases hjn:j<n
        ·obtain ⟨x,hx,hcx⟩:=Hl.out j (by omega)
         have hd:decide ((j:Int)<(n:Int))=true:=by simp;omega
         have hji:(j:Int)<(n:Int):=by omega
         have hj3i:(j:Int)<3:=by omega
         have hjs:j<s.size:=by omega
         have hjsi:(j:Int)<(s.size:Int):=by omega
         obtain ⟨hgj,hc⟩:=Hch.out j hjs hjn
         rcases hc with hc|hc|hc|hc
         ·have q114:((s[j].toNat:Int)==114)=true:=by rw[hc];rfl
          have d114:decide ((s[j].toNat:Int)=114)=true:=by rw[hc];rfl
          have q115:((s[j].toNat:Int)==115)=false:=by rw[hc];rfl
          have d115:decide ((s[j].toNat:Int)=115)=false:=by rw[hc];rfl
          have q119:((s[j].toNat:Int)==119)=false:=by rw[hc];rfl
          have d119:decide ((s[j].toNat:Int)=119)=false:=by rw[hc];rfl
          by_cases x0:x<0
          ·have dx:decide (x<0)=true:=by simpa using x0
           have hfb:fitB s[j] x=false:=by rw[hc,fit_r];exact regB_f0 x0
           have hbb:=Hbt.out j _ x hgj hx hfb;clear hgj hfb Hz;go_wp2;go_ret;exact ⟨by first|rfl|(simp only[hrb,hbb];rfl),Hm.out⟩
          ·have dx:decide (x<0)=false:=by simpa using x0
           by_cases x1:8≤x
           ·have dy:decide (8≤x)=true:=by simpa using x1
            have hfb:fitB s[j] x=false:=by rw[hc,fit_r];exact regB_f1 x1
            have hbb:=Hbt.out j _ x hgj hx hfb;clear hgj hfb Hz;go_wp2;go_ret;exact ⟨by first|rfl|(simp only[hrb,hbb];rfl),Hm.out⟩
           ·have dy:decide (8≤x)=false:=by simpa using x1
            have hfb:fitB s[j] x=true:=by rw[hc,fit_r];exact regB_t (by omega) (by omega)
            have Hgj:=Lib.hid hgj;have Hfb:=Lib.hid hfb;clear hgj hfb;go_wp2
            go_round
            case rel=>exact ⟨j+1,by omega,by go_num,fun q c y h1 h2 h3=>by
             by_cases e:q=j
             ·subst e;rw[Hgj.out]at h2;cases h2;rw[hx]at h3;cases h3;exact Hfb.out
             ·exact Hz.out q c y (by omega) h2 h3⟩
            case measure=>simp[intOf];omega
         ·have q114:((s[j].toNat:Int)==114)=false:=by rw[hc];rfl
          have d114:decide ((s[j].toNat:Int)=114)=false:=by rw[hc];rfl
          have q115:((s[j].toNat:Int)==115)=true:=by rw[hc];rfl
          have d115:decide ((s[j].toNat:Int)=115)=true:=by rw[hc];rfl
          have q119:((s[j].toNat:Int)==119)=false:=by rw[hc];rfl
          have d119:decide ((s[j].toNat:Int)=119)=false:=by rw[hc];rfl
          by_cases x0:x<0
          ·have dx:decide (x<0)=true:=by simpa using x0
           have hfb:fitB s[j] x=false:=by rw[hc,fit_s];exact regB_f0 x0
           have hbb:=Hbt.out j _ x hgj hx hfb;clear hgj hfb Hz;go_wp2;go_ret;exact ⟨by first|rfl|(simp only[hrb,hbb];rfl),Hm.out⟩
          ·have dx:decide (x<0)=false:=by simpa using x0
           by_cases x1:7≤x
           ·have dy:decide (7≤x)=true:=by simpa using x1
            have hfb:fitB s[j] x=false:=by rw[hc,fit_s];exact regB_f1 x1
            have hbb:=Hbt.out j _ x hgj hx hfb;clear hgj hfb Hz;go_wp2;go_ret;exact ⟨by first|rfl|(simp only[hrb,hbb];rfl),Hm.out⟩
           ·have dy:decide (7≤x)=false:=by simpa using x1
            have hfb:fitB s[j] x=true:=by rw[hc,fit_s];exact regB_t (by omega) (by omega)
            have Hgj:=Lib.hid hgj;have Hfb:=Lib.hid hfb;clear hgj hfb;go_wp2
            go_round
            case rel=>exact ⟨j+1,by omega,by go_num,fun q c y h1 h2 h3=>by
             by_cases e:q=j
             ·subst e;rw[Hgj.out]at h2;cases h2;rw[hx]at h3;cases h3;exact Hfb.out
             ·exact Hz.out q c y (by omega) h2 h3⟩
            case measure=>simp[intOf];omega
         ·have q114:((s[j].toNat:Int)==114)=false:=by rw[hc];rfl
          have d114:decide ((s[j].toNat:Int)=114)=false:=by rw[hc];rfl
          have q115:((s[j].toNat:Int)==115)=false:=by rw[hc];rfl
          have d115:decide ((s[j].toNat:Int)=115)=false:=by rw[hc];rfl
          have q119:((s[j].toNat:Int)==119)=false:=by rw[hc];rfl
          have d119:decide ((s[j].toNat:Int)=119)=false:=by rw[hc];rfl
          by_cases x0:x<0
          ·have dx:decide (x<0)=true:=by simpa using x0
           have hfb:fitB s[j] x=false:=by rw[hc,fit_v];exact regB_f0 x0
           have hbb:=Hbt.out j _ x hgj hx hfb;clear hgj hfb Hz;go_wp2;go_ret;exact ⟨by first|rfl|(simp only[hrb,hbb];rfl),Hm.out⟩
          ·have dx:decide (x<0)=false:=by simpa using x0
           by_cases x1:4294967296≤x
           ·have dy:decide (4294967296≤x)=true:=by simpa using x1
            have hfb:fitB s[j] x=false:=by rw[hc,fit_v];exact regB_f1 x1
            have hbb:=Hbt.out j _ x hgj hx hfb;clear hgj hfb Hz;go_wp2;go_ret;exact ⟨by first|rfl|(simp only[hrb,hbb];rfl),Hm.out⟩
           ·have dy:decide (4294967296≤x)=false:=by simpa using x1
            have hfb:fitB s[j] x=true:=by rw[hc,fit_v];exact regB_t (by omega) (by omega)
            have Hgj:=Lib.hid hgj;have Hfb:=Lib.hid hfb;clear hgj hfb;go_wp2
            go_round
            case rel=>exact ⟨j+1,by omega,by go_num,fun q c y h1 h2 h3=>by
             by_cases e:q=j
             ·subst e;rw[Hgj.out]at h2;cases h2;rw[hx]at h3;cases h3;exact Hfb.out
             ·exact Hz.out q c y (by omega) h2 h3⟩
            case measure=>simp[intOf];omega
         ·have q114:((s[j].toNat:Int)==114)=false:=by rw[hc];rfl
          have d114:decide ((s[j].toNat:Int)=114)=false:=by rw[hc];rfl
          have q115:((s[j].toNat:Int)==115)=false:=by rw[hc];rfl
          have d115:decide ((s[j].toNat:Int)=115)=false:=by rw[hc];rfl
          have q119:((s[j].toNat:Int)==119)=true:=by rw[hc];rfl
          have d119:decide ((s[j].toNat:Int)=119)=true:=by rw[hc];rfl
          by_cases x0:x<0
          ·have dx:decide (x<0)=true:=by simpa using x0
           have hfb:fitB s[j] x=false:=by rw[hc,fit_w];exact regB_f0 x0
           have hbb:=Hbt.out j _ x hgj hx hfb;clear hgj hfb Hz;go_wp2;go_ret;exact ⟨by first|rfl|(simp only[hrb,hbb];rfl),Hm.out⟩
          ·have dx:decide (x<0)=false:=by simpa using x0
           by_cases x1:4≤x
           ·have dy:decide (4≤x)=true:=by simpa using x1
            have hfb:fitB s[j] x=false:=by rw[hc,fit_w];exact regB_f1 x1
            have hbb:=Hbt.out j _ x hgj hx hfb;clear hgj hfb Hz;go_wp2;go_ret;exact ⟨by first|rfl|(simp only[hrb,hbb];rfl),Hm.out⟩
           ·have dy:decide (4≤x)=false:=by simpa using x1
            have hfb:fitB s[j] x=true:=by rw[hc,fit_w];exact regB_t (by omega) (by omega)
            have Hgj:=Lib.hid hgj;have Hfb:=Lib.hid hfb;clear hgj hfb;go_wp2
            go_round
            case rel=>exact ⟨j+1,by omega,by go_num,fun q c y h1 h2 h3=>by
             by_cases e:q=j
             ·subst e;rw[Hgj.out]at h2;cases h2;rw[hx]at h3;cases h3;exact Hfb.out
             ·exact Hz.out q c y (by omega) h2 h3⟩
            case measure=>simp[intOf];omega
        ·have hd:decide ((j:Int)<(n:Int))=false:=by simp;omega
         have hbb:=Hbf.out fun q c x h1 h2=>Hz.out q c x (by have:=(List.getElem?_eq_some_iff.1 h1).1;have:=Hns.out;omega) h1 h2;clear Hz;go_wp2;go_ret;exact ⟨by first|rfl|(simp only[hrb,hbb];rfl),Hm.out⟩
end
section
open Go.RowKit Qs Qh
variable {w w':World}
theorem ba_eq(a b:ByteArray):(a.toList==b.toList)=decide (a=b):=by
 rw[Bool.eq_iff_iff,beq_iff_eq,decide_eq_true_eq,Lib.toList_data,Lib.toList_data];exact ⟨fun h=>ByteArray.ext (Array.toList_inj.1 h),fun h=>by rw[h]⟩
theorem ba_label(s:ByteArray):(s.toList==[108,97,98,101,108])=decide (s=opStr 17):=by
 have:=ba_eq s (opStr 17);rw[Lib.toList_data (opStr 17)]at this;exact this
def labRE(to:ByteArray)(l:List RI):Int:=match labR to l 0 with|some i=>(i:Int)|none=>-1
theorem dropR{l:List RI}{q:Nat}{x:RI}(h:l[q]?=some x):l.drop q=x :: l.drop (q+1):=by
 obtain ⟨hl,rfl⟩:=List.getElem?_eq_some_iff.1 h;exact List.drop_eq_getElem_cons hl
theorem labelR_any{v:Value}{l:List RI}(h:RCode w v l)(hl:l.length≤1000000)(to:ByteArray) :
  Calls Tryz.prog 56 #[v,.string to] w fun e w'=>e=.returned (.int .i64 (labRE to l))∧w=w':=by
 obtain ⟨⟨a,c,rfl,hx⟩,-⟩:=h;have Hx:=Lib.hid hx;clear hx
 go_enter Tryz.func56,Tryz.ntmps56
 go_wp2
 go_loop [5] (fun i=>∃q:Nat,q≤l.length∧i=.int .i64 q∧labR to l 0=labR to (l.drop q) q) (fun i=>l.length - (intOf i).toNat)
 case atStart=>exact ⟨0,Nat.zero_le _,rfl,rfl⟩
 case round=>
  obtain ⟨q,hq,rfl,hla⟩:=hrel;have Hla:=Lib.hid hla;clear hla
  by_cases hlt:q<l.length
  ·have hd:decide ((q:Int)<(l.length:Int))=true:=by simp;omega
   have hqi:(q:Int)<(l.length:Int):=by omega
   obtain ⟨x,hxq⟩:∃x,l[q]?=some x:=⟨_,List.getElem?_eq_getElem hlt⟩;obtain ⟨b,off,rfl,hb,c0,-,-,-,c4⟩:=Hx.out q x hxq;have ho:=ba_label x.op;have ht:=ba_eq x.to to;have Hxq:=Lib.hid hxq;clear hxq
   by_cases h1:x.op=opStr 17
   ·rw[decide_eq_true h1]at ho
    by_cases h2:x.to=to
    ·rw[decide_eq_true h2]at ht
     have hres:labRE to l=(q:Int):=by
      unfold labRE;rw[Hla.out,dropR Hxq.out];unfold labR;rw[if_pos ⟨h1,h2⟩]
     have Hr:=Lib.hid hres;clear hres h1 h2;go_wp2;go_ret;exact ⟨by rw[Hr.out];rfl,rfl⟩
    ·rw[decide_eq_false h2]at ht
     have hn:labR to (l.drop q) q=labR to (l.drop (q+1)) (q+1):=by
      rw[dropR Hxq.out]
      conv=>lhs;unfold labR
      rw[if_neg (fun h=>h2 h.2)]
     have Hn:=Lib.hid (Hla.out.trans hn);clear hn h1 h2;go_wp2
     go_round
     case rel=>exact ⟨q+1,by omega,by go_num,Hn.out⟩
     case measure=>simp[intOf];omega
   ·rw[decide_eq_false h1]at ho
    have hn:labR to (l.drop q) q=labR to (l.drop (q+1)) (q+1):=by
     rw[dropR Hxq.out]
     conv=>lhs;unfold labR
     rw[if_neg (fun h=>h1 h.1)]
    have Hn:=Lib.hid (Hla.out.trans hn);clear hn h1 ht;go_wp2
    go_round
    case rel=>exact ⟨q+1,by omega,by go_num,Hn.out⟩
    case measure=>simp[intOf];omega
  ·have hd:decide ((q:Int)<(l.length:Int))=false:=by simp;omega
   have hres:labRE to l = -1:=by
    unfold labRE;rw[Hla.out,List.drop_eq_nil_of_le (by omega)];rfl
   have Hr:=Lib.hid hres;clear hres;go_wp2;go_ret;exact ⟨by rw[Hr.out];rfl,rfl⟩
theorem ie_any(x:RI)(hto:x.to.size≤maxLen)(w:World) :
  Calls Tryz.prog 105 #[riV x] w fun e w'=>e=.returned (.int .i64 (oneE x))∧Mod noF w w':=by
 obtain ⟨op,A,B,C,to⟩:=x
 cases h:opIx op with
 |none=>
  have e:oneE ⟨op,A,B,C,to⟩=3:=by unfold oneE;simp only;rw[h]
  rw[e];exact ie_no A B C w h
 |some k=>
  obtain ⟨hk,rfl⟩:=opIx_some h;exact ie_some hk hto A B C w
def stepA(l:List RI)(i:Nat)(x:RI):Int:=if oneE x=0∧x.op=opStr 17∧labRE x.to l≠i then 4 else oneE x
def stepB(l:List RI)(i:Nat)(x:RI):Int:=if stepA l i x=0∧x.to.toList≠[]∧labRE x.to l<0 then 5 else stepA l i x
theorem labRE_eq{to:ByteArray}{l:List RI}{i:Nat}:labRE to l=(i:Int)↔labR to l 0=some i:=by
 unfold labRE
 cases h:labR to l 0 with
 |none=>simp
 |some k=>
  constructor
  ·intro e;have e2:(k:Int)=i:=e;congr 1;omega
  ·intro e;cases e;rfl
theorem labRE_neg{to:ByteArray}{l:List RI}:labRE to l<0↔labR to l 0=none:=by
 unfold labRE
 cases h:labR to l 0 with
 |none=>simp
 |some k=>simp
theorem stepB_eq(l:List RI)(i:Nat)(x:RI):stepB l i x=chkI l i x:=by
 by_cases h0:oneE x=0
 ·by_cases h1:x.op=opStr 17∧labR x.to l 0≠some i
  ·have hA:stepA l i x=4:=by unfold stepA;rw[if_pos ⟨h0,h1.1,fun e=>h1.2 (labRE_eq.1 e)⟩]
   unfold stepB chkI;rw[hA,if_neg (fun h=>by have:=h.1;omega),if_neg (fun h=>h h0),if_pos h1]
  ·have hA:stepA l i x=0:=by unfold stepA;rw[if_neg (fun h=>h1 ⟨h.2.1,fun e=>h.2.2 (labRE_eq.2 e)⟩),h0]
   unfold stepB chkI;rw[hA,if_neg (show ¬oneE x≠0 from fun h=>h h0),if_neg h1]
   by_cases h2:x.to.toList≠[]∧labR x.to l 0=none
   ·rw[if_pos h2,if_pos ⟨rfl,h2.1,labRE_neg.2 h2.2⟩]
   ·rw[if_neg h2,if_neg (fun h=>h2 ⟨h.2.1,labRE_neg.1 h.2.2⟩)]
 ·have hA:stepA l i x=oneE x:=by unfold stepA;rw[if_neg (fun h=>h0 h.1)]
  unfold stepB chkI;rw[hA,if_neg (fun h=>h0 h.1),if_pos h0]
end
section
open Go.RowKit Qs Qh
variable {w w':World}
theorem bareR_any(c:Int)(w:World):Calls Tryz.prog 27 #[.int .i64 c] w fun e w'=>e=.returned (.agg #[.int .i64 c,.int .i64 (-1)])∧Mod noF w w':=by
 go_enter Tryz.func27,Tryz.ntmps27
 go_wp2;exact bodyPost_ret (v:=.agg #[.int .i64 c,.int .i64 (-1)]) (by simp[results,Tryz.results27,go_sem]) rfl ⟨rfl,(Mod.refl _ _).alloc _⟩
theorem two_set{W:World}{b:Nat}(h:Mod noF w W)(hb:w.heap.size≤b)(x y:Value):Mod noF w ((W.setCell ⟨b,0,none⟩ x).setCell ⟨b,1,none⟩ y):=
 h.trans (((Mod.refl (fun k=>k=b) W).setCell (fun _=>rfl) x).setCell (fun _=>rfl) y) (fun k hk e=>by omega)
theorem codeFaultR_any{v:Value}{l:List RI}(h:RCode w v l)(hl:l.length≤maxLen) :
  Calls Tryz.prog 64 #[v] w fun e w'=>e=.returned (.agg #[.int .i64 (chkR l).1,.int .i64 (chkR l).2])∧Mod noF w w':=by
 have H:=Lib.hid h;obtain ⟨⟨sa,sc,rfl,-⟩,-⟩:=h
 by_cases h2:2000<l.length
 ·have hd:decide ((2000:Int)<(l.length:Int))=true:=by simp;omega
  have hr:chkR l=(2,-1):=by unfold chkR;rw[if_pos h2]
  rw[hr];clear hr
  go_enter Tryz.func64,Tryz.ntmps64
  go_wp2_with fail
  refine (bareR_any _ _).mono ?_;rintro e w1 ⟨rfl,hm1⟩;have hres:=hm1.heap (heap_alloc_new w _) (fun e=>e);have r0:w1.cell? ⟨w.heap.size,0,none⟩=some (.int .i64 0):=(cell_of_heap hres 0).trans rfl;have r1:w1.cell? ⟨w.heap.size,1,none⟩=some (.int .i64 0):=(cell_of_heap hres 1).trans rfl
  have rf0:=free_of_heap hres 0;have rf1:=free_of_heap hres 1;have rb:=lt_of_block hres;have Hw:=Lib.hid (((Mod.refl noF w).alloc (.cells #[.int .i64 0,.int .i64 0] 56)).trans0 hm1);clear hm1 hres;go_wp2
  exact bodyPost_ret (v:=.agg #[.int .i64 2,.int .i64 (-1)]) (by simp[results,Tryz.results64,go_sem,r0,r1]) rfl ⟨rfl,two_set Hw.out (Nat.le_refl _) _ _⟩
 ·have hd:decide ((2000:Int)<(l.length:Int))=false:=by simp;omega
  have hr:chkR l=chkF l l 0:=by unfold chkR;rw[if_neg h2]
  go_enter Tryz.func64,Tryz.ntmps64
  go_wp2
  go_loopw [3,4] (fun i _ wr=>∃k:Nat,k≤l.length∧i=.int .i64 k∧Mod noF w wr∧wr.heap[w.heap.size]?=some (.cells #[.int .i64 0,.int .i64 0] 56 (0,0))∧∀(j:Nat) y,j<k→l[j]?=some y→chkI l j y=0) (fun i _ _=>l.length - (intOf i).toNat)
  case atStart=>exact ⟨0,Nat.zero_le _,rfl,(Mod.refl _ _).alloc _,heap_alloc_new w _,fun j y h=>absurd h (by omega)⟩
  case round=>
   obtain ⟨k,hk,rfl,hmr,hres,hz⟩:=hrel;obtain ⟨wo,rfl⟩:∃wo:World,wo=wr:=⟨_,rfl⟩;have Hmr:=Lib.hid hmr;have Hres0:=Lib.hid hres;have Hz:=Lib.hid hz;have hb0:=lt_of_block hres;clear hmr hres hz
   by_cases hlt:k<l.length
   ·have hd3:decide ((k:Int)<(l.length:Int))=true:=by simp;omega
    have hki:(k:Int)<(l.length:Int):=by omega
    obtain ⟨x,hxk⟩:∃x,l[k]?=some x:=⟨_,List.getElem?_eq_getElem hlt⟩;obtain ⟨⟨_,_,e',hx⟩,hok⟩:=H.out.keep Hmr.out;cases e';obtain ⟨b,off,rfl,hb,c0,c1,c2,c3,c4⟩:=hx k x hxk;have hie:=ie_any x (hok x (List.mem_of_getElem? hxk)) wo;unfold riV at hie;have Hie:=Lib.hid hie;have Hxk:=Lib.hid hxk
    have hlab:∀W,Mod noF w W→Calls Tryz.prog 56 #[.slice (some ⟨b,off,none⟩) l.length sc,.string x.to] W fun e w'=>e=.returned (.int .i64 (labRE x.to l))∧W=w':=fun W hW=>labelR_any (H.out.keep hW) (by omega) x.to;have Hlab:=Lib.hid hlab;have hge:=one_neg (x:=x)
    clear hx hok hxk hie hlab
    go_wp2_with fail
    refine Hie.out.mono ?_;rintro e w1 ⟨rfl,hm1⟩;have hres:=hm1.heap Hres0.out (fun e=>e);have r0:w1.cell? ⟨w.heap.size,0,none⟩=some (.int .i64 0):=(cell_of_heap hres 0).trans rfl;have r1:w1.cell? ⟨w.heap.size,1,none⟩=some (.int .i64 0):=(cell_of_heap hres 1).trans rfl;have rf0:=free_of_heap hres 0
    have rf1:=free_of_heap hres 1;have rb:=lt_of_block hres;have q0:=hm1.cell c0 (fun e=>e);have q4:=hm1.cell c4 (fun e=>e);have qb:=Nat.lt_of_lt_of_le hb hm1.size;have Hw:=Lib.hid (Hmr.out.trans0 hm1);have Hres:=Lib.hid hres;have ho:=ba_label x.op;clear hm1 hres c0 c1 c2 c3 c4 Hie
    by_cases h0:oneE x=0
    ·have z0:(oneE x==0)=true:=by rw[h0];rfl
     rw[h0]
     by_cases hop:x.op=opStr 17
     ·rw[decide_eq_true hop]at ho
      by_cases hk2:labRE x.to l=k
      ·have dk:(labRE x.to l==(k:Int))=true:=by rw[hk2];simp
       have dk2:decide (labRE x.to l=(k:Int))=true:=by simpa using hk2
       have hA:stepA l k x=0:=by unfold stepA;rw[if_neg (fun h=>h.2.2 hk2),h0]
       clear hop
       go_wp2_with fail
       refine (Hlab.out _ Hw.out).mono ?_;rintro e w' ⟨rfl,rfl⟩
       have hn:¬labRE x.to l<0:=by rw[hk2];omega
       clear hk2
       by_cases hto:x.to.toList=[]
       ·have t0:(x.to.toList==[])=true:=by rw[hto];rfl
        have hch:chkI l k x=0:=by rw[←stepB_eq];unfold stepB;rw[hA,if_neg (fun h=>h.2.1 hto)]
        have Hch:=Lib.hid hch;clear hch;go_wp2
        go_roundw
        case rel=>exact ⟨k+1,by omega,by go_num,Hw.out,Hres.out,fun j y hj hy=>by
         by_cases e:j=k
         ·rw[e,Hxk.out]at hy;cases hy;rw[e];exact Hch.out
         ·exact Hz.out j y (by omega) hy⟩
        case measure=>simp[intOf];omega
       ·have t0:(x.to.toList==[])=false:=by rw[beq_eq_false_iff_ne];exact hto
        have dn:decide (labRE x.to l<0)=false:=by simpa using hn
        go_wp2_with fail
        refine (Hlab.out _ Hw.out).mono ?_;rintro e w' ⟨rfl,rfl⟩
        have hch:chkI l k x=0:=by rw[←stepB_eq];unfold stepB;rw[hA,if_neg (fun h=>by have:=h.2.2;omega)]
        have Hch:=Lib.hid hch;clear hch;go_wp2
        go_roundw
        case rel=>exact ⟨k+1,by omega,by go_num,Hw.out,Hres.out,fun j y hj hy=>by
         by_cases e:j=k
         ·rw[e,Hxk.out]at hy;cases hy;rw[e];exact Hch.out
         ·exact Hz.out j y (by omega) hy⟩
        case measure=>simp[intOf];omega
      ·have dk:(labRE x.to l==(k:Int))=false:=by simpa using hk2
       have dk2:decide (labRE x.to l=(k:Int))=false:=by simpa using hk2
       have hA:stepA l k x=4:=by unfold stepA;rw[if_pos ⟨h0,hop,hk2⟩]
       clear hop
       go_wp2_with fail
       refine (Hlab.out _ Hw.out).mono ?_;rintro e w' ⟨rfl,rfl⟩
       have hch:chkI l k x=4:=by rw[←stepB_eq];unfold stepB;rw[hA,if_neg (fun h=>by have:=h.1;omega)]
       have hF:=chkF_at (s:=0) Hxk.out (fun j y hj hy=>by rw[Nat.zero_add];exact Hz.out j y hj hy) (by rw[Nat.zero_add,hch];omega);rw[Nat.zero_add,hch]at hF;have HF:=Lib.hid hF;clear hF hch;go_wp2
       exact bodyPost_ret (v:=.agg #[.int .i64 4,.int .i64 k]) (by simp[results,Tryz.results64,go_sem,r0,r1]) rfl ⟨by rw[hr,HF.out],two_set Hw.out (Nat.le_refl _) _ _⟩
     ·rw[decide_eq_false hop]at ho
      have hA:stepA l k x=0:=by unfold stepA;rw[if_neg (fun h=>hop h.2.1),h0]
      by_cases hto:x.to.toList=[]
      ·have t0:(x.to.toList==[])=true:=by rw[hto];rfl
       have hch:chkI l k x=0:=by rw[←stepB_eq];unfold stepB;rw[hA,if_neg (fun h=>h.2.1 hto)]
       have Hch:=Lib.hid hch;clear hch;go_wp2
       go_roundw
       case rel=>exact ⟨k+1,by omega,by go_num,Hw.out,Hres.out,fun j y hj hy=>by
        by_cases e:j=k
        ·rw[e,Hxk.out]at hy;cases hy;rw[e];exact Hch.out
        ·exact Hz.out j y (by omega) hy⟩
       case measure=>simp[intOf];omega
      ·have t0:(x.to.toList==[])=false:=by rw[beq_eq_false_iff_ne];exact hto
       by_cases hn:labRE x.to l<0
       ·have dn:decide (labRE x.to l<0)=true:=by simpa using hn
        go_wp2_with fail
        refine (Hlab.out _ Hw.out).mono ?_;rintro e w' ⟨rfl,rfl⟩
        have hch:chkI l k x=5:=by rw[←stepB_eq];unfold stepB;rw[hA,if_pos ⟨rfl,hto,hn⟩]
        have hF:=chkF_at (s:=0) Hxk.out (fun j y hj hy=>by rw[Nat.zero_add];exact Hz.out j y hj hy) (by rw[Nat.zero_add,hch];omega);rw[Nat.zero_add,hch]at hF;have HF:=Lib.hid hF;clear hF hch;go_wp2
        exact bodyPost_ret (v:=.agg #[.int .i64 5,.int .i64 k]) (by simp[results,Tryz.results64,go_sem,r0,r1]) rfl ⟨by rw[hr,HF.out],two_set Hw.out (Nat.le_refl _) _ _⟩
       ·have dn:decide (labRE x.to l<0)=false:=by simpa using hn
        go_wp2_with fail
        refine (Hlab.out _ Hw.out).mono ?_;rintro e w' ⟨rfl,rfl⟩
        have hch:chkI l k x=0:=by rw[←stepB_eq];unfold stepB;rw[hA,if_neg (fun h=>by have:=h.2.2;omega)]
        have Hch:=Lib.hid hch;clear hch;go_wp2
        go_roundw
        case rel=>exact ⟨k+1,by omega,by go_num,Hw.out,Hres.out,fun j y hj hy=>by
         by_cases e:j=k
         ·rw[e,Hxk.out]at hy;cases hy;rw[e];exact Hch.out
         ·exact Hz.out j y (by omega) hy⟩
        case measure=>simp[intOf];omega
    ·have z0:(oneE x==0)=false:=by simpa using h0
     have z1:decide (oneE x=0)=false:=by simpa using h0
     have z2:decide (0<oneE x)=true:=by simp;omega
     have hA:stepA l k x=oneE x:=by unfold stepA;rw[if_neg (fun h=>h0 h.1)]
     have hch:chkI l k x=(oneE x):=by rw[←stepB_eq];unfold stepB;rw[hA,if_neg (fun h=>h0 h.1)]
     have hF:=chkF_at (s:=0) Hxk.out (fun j y hj hy=>by rw[Nat.zero_add];exact Hz.out j y hj hy) (by rw[Nat.zero_add,hch];omega);rw[Nat.zero_add,hch]at hF;have HF:=Lib.hid hF;clear hF hch;go_wp2
     exact bodyPost_ret (v:=.agg #[.int .i64 (oneE x),.int .i64 k]) (by simp[results,Tryz.results64,go_sem,r0,r1]) rfl ⟨by rw[hr,HF.out],two_set Hw.out (Nat.le_refl _) _ _⟩
   ·have hd3:decide ((k:Int)<(l.length:Int))=false:=by simp;omega
    have hF:=chkF_none (l:=l) (r:=l) (s:=0) (fun j y hy=>by rw[Nat.zero_add];exact Hz.out j y (by have:=(List.getElem?_eq_some_iff.1 hy).1;omega) hy);have HF:=Lib.hid hF;clear hF
    go_wp2_with fail
    refine (fine_any _).mono ?_;rintro e w1 ⟨rfl,hm1⟩;have hres:=hm1.heap Hres0.out (fun e=>e);have r0:w1.cell? ⟨w.heap.size,0,none⟩=some (.int .i64 0):=(cell_of_heap hres 0).trans rfl;have r1:w1.cell? ⟨w.heap.size,1,none⟩=some (.int .i64 0):=(cell_of_heap hres 1).trans rfl
    have rf0:=free_of_heap hres 0;have rf1:=free_of_heap hres 1;have rb:=lt_of_block hres;have Hw:=Lib.hid (Hmr.out.trans0 hm1);clear hm1 hres;go_wp2
    exact bodyPost_ret (v:=.agg #[.int .i64 0,.int .i64 (-1)]) (by simp[results,Tryz.results64,go_sem,r0,r1]) rfl ⟨by rw[hr,HF.out],two_set Hw.out (Nat.le_refl _) _ _⟩
end
section
open Go.ChangeShapes Go.WideShapes Go.ChangeAt Go.RowKit Go.Joins Qh Qs
variable {H:Type}{enc:TypeId × Value→H}{W:World}
def intVals(x:Int):List Value:=[.int .i64 x]
theorem Int_read(n:Nat)(cs:List Value)(y:DataW H × List MemPlace)(h:DataW.trod enc Tryz.prog W 0 (fun _=>true) true n 3 cs=some y):∃x:Int,cs=intVals x∧True:=by
 obtain ⟨x,e,_,_⟩:=DataW.trod_int Tryz.underlying3 h;exact ⟨x,e,trivial⟩
theorem intRow{v:Value}{l:List Int}(h:RowsAt intVals 1 W v l):IntsAt W v l:=by
 obtain ⟨a,c,e,hl,hc,hn,hx⟩:=h;refine ⟨a,c,e,by omega,fun i x hi=>?_⟩;obtain ⟨b,off,e1,hb,hcell⟩:=hx i x hi;refine ⟨b,off,e1,hb,?_⟩;have:=hcell 0 _ rfl
 rwa [show off+i*1+0=off+i by omega]at this
def IntsOk(W:World)(u:Value):Prop:=∃l,IntsAt W u l
theorem Ints_read(n:Nat)(cs:List Value)(y:DataW H × List MemPlace)(h:DataW.trod enc Tryz.prog W 0 (fun _=>true) true n 26 cs=some y):∃u:Value,cs=[u]∧IntsOk W u:=by
 rcases Go.Deep.open_slice Tryz.underlying26 h with ⟨hcs,_⟩|⟨A,l,c,m,n',D,Pl,hcs,_,hl,hm,hmm,_,hel⟩
 ·exact ⟨.slice none 0 0,hcs,[],none,0,rfl,by simp,fun i x h=>by simp at h⟩
 ·subst hcs;obtain ⟨z,hz,_⟩:=rowsAt_of (k:=1) (vals:=intVals) (good:=fun _=>True) (a:=some A) (len:=l) (cap:=c) (by decide) Tryz.underlying26 (by kernel_rfl) Int_read (⟨n,h⟩:DataW.Trod enc Tryz.prog W 0 (fun _=>true) true 26 (.slice (some A) l c) y.1 y.2);exact ⟨_,rfl,z,intRow hz⟩
def IntRows(W:World)(v:Value)(z:List (List Int)):Prop:=RowsAt0 W v z∧z.length≤maxLen
theorem rows_pick{α : Type}{R:Value→α→Prop}(d : α)(us:List Value)(hg:∀u∈us,∃l,R u l):∃f:Value→α,∀u∈us,R u (f u):=by
 have hch:∀u,∃z : α,u∈us→R u z:=fun u=>by
  by_cases hu:u∈us
  ·obtain ⟨z,hz⟩:=hg u hu;exact ⟨z,fun _=>hz⟩
  ·exact ⟨d,fun h=>absurd h hu⟩
 exact ⟨fun u=>Classical.choose (hch u),fun u hu=>Classical.choose_spec (hch u) hu⟩
theorem intRows_of{a:Option Addr}{len cap:Nat}{d:DataW H}{p:List MemPlace}(h:DataW.Trod enc Tryz.prog W 0 (fun _=>true) true 22 (.slice a len cap) d p):∃z,IntRows W (.slice a len cap) z:=by
 obtain ⟨us,⟨a',c',e',hlc,hcm,hn,hx⟩,hg⟩:=rowsAt_of (k:=1) (vals:=fun u:Value=>[u]) (good:=IntsOk W) (by decide) Tryz.underlying22 (by kernel_rfl) Ints_read h;cases e';obtain ⟨f,hf⟩:=rows_pick (R:=fun u l=>IntsAt W u l) [] us hg
 refine ⟨us.map f,⟨a,cap,by rw[List.length_map],fun i l hi=>?_⟩,by rw[List.length_map];omega⟩;rw[List.getElem?_map]at hi;obtain ⟨u,hu,rfl⟩:=Option.map_eq_some_iff.1 hi;obtain ⟨b,off,e,hb,hc⟩:=hx i u hu;have hcu:=hc 0 u rfl;rw[show off+i*1+0=off+i by omega]at hcu
 exact ⟨b,off,u,e,hb,hcu,hf u (List.mem_of_getElem? hu),trivial⟩
def riVals(x:RI):List Value:=[.string x.op,.int .i64 x.A,.int .i64 x.B,.int .i64 x.C,.string x.to]
theorem len5{l:List Value}(h:l.length=5):∃c0 c1 c2 c3 c4:Value,l=[c0,c1,c2,c3,c4]:=by
 match l,h with
 |[c0,c1,c2,c3,c4],_=>exact ⟨c0,c1,c2,c3,c4,rfl⟩
theorem Instr_read(n:Nat)(cs:List Value)(y:DataW H × List MemPlace)(h:DataW.trod enc Tryz.prog W 0 (fun _=>true) true n 73 cs=some y):∃x:RI,cs=riVals x∧x.to.size≤maxLen:=by
 obtain ⟨xs,n',rfl,_,hlen,hxl,hf⟩:=DataW.trod_struct Tryz.underlying73 h;rw[show Tryz.prog.cellsOf 73 = 5 by kernel_rfl]at hlen
 have k1 : Tryz.prog.cellsOf 3 = 1:=by kernel_rfl
 have k9 : Tryz.prog.cellsOf 9 = 1:=by kernel_rfl
 obtain ⟨c0,c1,c2,c3,c4,rfl⟩:=len5 hlen;have h0 := hf 0 ⟨"Op", 9, 0, false, "", "", 0⟩ rfl;rw[List.getElem?_eq_getElem (show 0<xs.length by rw[hxl];decide)]at h0;obtain ⟨s0,e0,_,o0⟩:=DataW.trod_string Tryz.underlying9 h0
 simp only[k9,List.drop_succ_cons,List.drop_zero,List.take_succ_cons,List.take_zero,List.cons.injEq,and_true]at e0;subst e0;have h1 := hf 1 ⟨"A", 3, 1, false, "", "", 16⟩ rfl;rw[List.getElem?_eq_getElem (show 1<xs.length by rw[hxl];decide)]at h1
 obtain ⟨s1,e1,_,o1⟩:=DataW.trod_int Tryz.underlying3 h1;simp only[k1,List.drop_succ_cons,List.drop_zero,List.take_succ_cons,List.take_zero,List.cons.injEq,and_true]at e1;subst e1;have h2 := hf 2 ⟨"B", 3, 2, false, "", "", 24⟩ rfl
 rw[List.getElem?_eq_getElem (show 2<xs.length by rw[hxl];decide)]at h2;obtain ⟨s2,e2,_,o2⟩:=DataW.trod_int Tryz.underlying3 h2;simp only[k1,List.drop_succ_cons,List.drop_zero,List.take_succ_cons,List.take_zero,List.cons.injEq,and_true]at e2;subst e2
 have h3 := hf 3 ⟨"C", 3, 3, false, "", "", 32⟩ rfl;rw[List.getElem?_eq_getElem (show 3<xs.length by rw[hxl];decide)]at h3;obtain ⟨s3,e3,_,o3⟩:=DataW.trod_int Tryz.underlying3 h3
 simp only[k1,List.drop_succ_cons,List.drop_zero,List.take_succ_cons,List.take_zero,List.cons.injEq,and_true]at e3;subst e3;have h4 := hf 4 ⟨"To", 9, 4, false, "", "", 40⟩ rfl;rw[List.getElem?_eq_getElem (show 4<xs.length by rw[hxl];decide)]at h4
 obtain ⟨s4,e4,_,o4⟩:=DataW.trod_string Tryz.underlying9 h4;simp only[k9,List.drop_succ_cons,List.drop_zero,List.take_succ_cons,List.take_zero,List.cons.injEq,and_true]at e4;subst e4;exact ⟨⟨s0,s1,s2,s3,s4⟩,rfl,o4⟩
def CodeIn(W:World)(u:Value)(l:List RI):Prop:=RCode W u l∧l.length≤maxLen∧∃a n k,u=.slice a n k∧k≤maxLen
theorem Code_read(n:Nat)(cs:List Value)(y:DataW H × List MemPlace)(h:DataW.trod enc Tryz.prog W 0 (fun _=>true) true n 46 cs=some y):∃u:Value,cs=[u]∧∃l,CodeIn W u l:=by
 rcases Go.Deep.open_slice Tryz.underlying46 h with ⟨hcs,_⟩|⟨A,l,c,m,n',D,Pl,hcs,_,hl,hm,hmm,_,hel⟩
 ·exact ⟨.slice none 0 0,hcs,[],⟨⟨none,0,rfl,fun i x h=>by simp at h⟩,fun x h=>by simp at h⟩,by simp,_,_,_,rfl,Nat.zero_le _⟩
 ·subst hcs
  obtain ⟨z,⟨a',c',e',hlc,hcm,hn,hx⟩,hg⟩:=rowsAt_of (k:=5) (vals:=riVals) (good:=fun x:RI=>x.to.size≤maxLen) (a:=some A) (len:=l) (cap:=c) (by decide) Tryz.underlying46 (by kernel_rfl) Instr_read (⟨n,h⟩:DataW.Trod enc Tryz.prog W 0 (fun _=>true) true 46 (.slice (some A) l c) y.1 y.2)
  cases e';refine ⟨_,rfl,z,⟨⟨_,_,rfl,fun i x hi=>?_⟩,hg⟩,by omega,_,_,_,rfl,hcm⟩;obtain ⟨b,off,e,hb,hc⟩:=hx i x hi;exact ⟨b,off,e,hb,hc 0 _ rfl,hc 1 _ rfl,hc 2 _ rfl,hc 3 _ rfl,hc 4 _ rfl⟩
def InsRows(W:World)(v:Value)(z:List (List RI))(cv:Nat→Value):Prop:=
 RCodesAt W v z cv∧z.length≤maxLen∧(∀l∈z,l.length≤maxLen)∧∀(i:Nat) l,z[i]?=some l→∃a n k,cv i=.slice a n k∧k≤maxLen
theorem insRows_of{a:Option Addr}{len cap:Nat}{d:DataW H}{p:List MemPlace}(h:DataW.Trod enc Tryz.prog W 0 (fun _=>true) true 25 (.slice a len cap) d p):∃z cv,InsRows W (.slice a len cap) z cv:=by
 obtain ⟨us,⟨a',c',e',hlc,hcm,hn,hx⟩,hg⟩:=rowsAt_of (k:=1) (vals:=fun u:Value=>[u]) (good:=fun u=>∃l,CodeIn W u l) (by decide) Tryz.underlying25 (by kernel_rfl) Code_read h;cases e';obtain ⟨f,hf⟩:=rows_pick (R:=fun u l=>CodeIn W u l) [] us hg
 have hget:∀(i:Nat) l,(us.map f)[i]?=some l→∃u,us[i]?=some u∧us.getD i (.slice none 0 0)=u∧l=f u:=fun i l hi=>by
  rw[List.getElem?_map]at hi;obtain ⟨u,hu,rfl⟩:=Option.map_eq_some_iff.1 hi;exact ⟨u,hu,by simp[List.getD,hu],rfl⟩
 refine ⟨us.map f,fun i=>us.getD i (.slice none 0 0),⟨a,cap,by rw[List.length_map],fun i l hi=>?_⟩,by rw[List.length_map];omega,fun l hl=>?_,fun i l hi=>?_⟩
 ·obtain ⟨u,hu,e1,rfl⟩:=hget i l hi;obtain ⟨b,off,e,hb,hc⟩:=hx i u hu;have hcu:=hc 0 u rfl;rw[show off+i*1+0=off+i by omega]at hcu;refine ⟨b,off,e,hb,?_,?_,trivial⟩
  ·show W.cell? _=some (us.getD i (.slice none 0 0));rw[e1];exact hcu
  ·show RCode W (us.getD i (.slice none 0 0)) _;rw[e1];exact (hf u (List.mem_of_getElem? hu)).1
 ·obtain ⟨u,hu,rfl⟩:=List.mem_map.1 hl;exact (hf u hu).2.1
 ·obtain ⟨u,hu,e1,rfl⟩:=hget i l hi;show ∃a n k,us.getD i (.slice none 0 0)=.slice a n k∧k≤maxLen;rw[e1];exact (hf u (List.mem_of_getElem? hu)).2.2
def StartIn(W:World)(n:Int)(iw rw_:Value)(zi zr:List (List Int)):Prop:=IntRows W iw zi∧IntRows W rw_ zr
theorem intRows_cell{m:Nat}{u:Value}{y:DataW H × List MemPlace}(h:DataW.trod enc Tryz.prog W 0 (fun _=>true) true m 22 [u]=some y):∃z,IntRows W u z:=by
 rcases Go.Deep.open_slice Tryz.underlying22 h with ⟨hcs,_⟩|⟨A,l,c,m',n',D,Pl,hcs,_,hl,hm,hmm,_,hel⟩
 ·obtain rfl:u=.slice none 0 0:=by simpa using hcs
  exact ⟨[],⟨none,0,rfl,fun i l h=>by simp at h⟩,by simp⟩
 ·obtain rfl:u=.slice (some A) l c:=by simpa using hcs
  exact intRows_of (⟨m,h⟩:DataW.Trod enc Tryz.prog W 0 (fun _=>true) true 22 (.slice (some A) l c) y.1 y.2)
theorem start_open{r:Reach}{b0:Nat}{v:Value}{d:DataW H}{p:List MemPlace}(hv:Value.okWide Tryz.prog W r b0 24 v)(h:DataW.Trod enc Tryz.prog W 0 (fun _=>true) true 24 v d p) :
  ∃n iw rw_ zi zr,v=.agg #[.int .i64 n,iw,rw_]∧StartIn W n iw rw_ zi zr:=by
 obtain ⟨c0,c1,c2,y0,y1,y2,m,rfl,-,-,h0,h1,h2⟩:=open_agg3 Tryz.underlying24 (by kernel_rfl) (show Tryz.prog.cellsOf 24 = 3 by kernel_rfl) hv h;obtain ⟨n,e0,_,_⟩:=DataW.trod_int Tryz.underlying3 h0;obtain ⟨zi,wi⟩:=intRows_cell h1
 obtain ⟨zr,wr⟩:=intRows_cell h2
 have e:c0=.int .i64 n:=by simpa using e0
 subst e;exact ⟨n,c1,c2,zi,zr,rfl,wi,wr⟩
end
end Go.Proofs.YtciaficoeajeaaaGreatDoor
