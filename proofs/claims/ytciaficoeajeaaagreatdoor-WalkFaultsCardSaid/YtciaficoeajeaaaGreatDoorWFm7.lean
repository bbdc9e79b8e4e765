/- Texts that belong together, joined. -/
import Derived.Test.YtciaficoeajeaaaGreatDoorWFArenaAt
import Derived.Test.YtciaficoeajeaaaGreatDoorWFm2
import Derived.Test.YtciaficoeajeaaaGreatDoorWFm5
import Derived.Lib.SliceRun
import Derived.Test.YtciaficoeajeaaaGreatDoorWFm4
import Derived.Deep.RegionHeld3
import Derived.StillTailTactics
import Derived.Deep.LoopGhost
import Derived.Test.YtciaficoeajeaaaGreatDoorWFCodeFine
import Derived.RangeFuncBox
import Derived.RangeFuncFrom
import Derived.RangeFuncLeaves
import Derived.Shelf.Abstract
import Derived.WalkKit
import Derived.OwnWalkIn
import Derived.TacticsInMore
import Derived.LoopNIn
import Derived.LoopIn
import Derived.Test.YtciaficoeajeaaaGreatDoorProg
import Derived.Deep.QuietTactic
import Derived.BigQuiet
import Derived.Lib.Hide
import Derived.RowKit
import Derived.IntWalk
import Derived.Deep.RegionWith
import Derived.WalkSpells
import Derived.Test.YtciaficoeajeaaaGreatDoorWFm3
import Derived.WalkLawsBesides
import Derived.LoopTactic
import Derived.Test.YtciaficoeajeaaaGreatDoorWFStepP
set_option linter.unusedVariables false
set_option linter.unusedSimpArgs false
set_option linter.unusedSectionVars false
set_option maxHeartbeats 4000000
set_option maxRecDepth 100000
namespace Go.Proofs.YtciaficoeajeaaaGreatDoor
section
open Go.RowKit Qs Qh
def timesOk(l:List Cell):Prop:=∀(i:Nat) c,l[i]?=some c→0≤c.times∧c.times≤1000000000
variable {w:World}{b g:Nat}{l:List Cell}{a:Nat→Addr}
theorem aword_ok(R:AAt w b g l)(hn:l.length≤64)(ht:timesOk l){i:Nat}{x:Cell}(hi:l[i]?=some x)(hh:x.here=true)(j:Nat)(hj:j<4) :
  Calls Tryz.prog 86 #[.pointer (some ⟨b,0,none⟩),.agg #[.int .i64 i,.int .i64 (x.times - 1)],.int .i64 j] w fun e w'=>e=.returned (.tuple #[.pointer (some ⟨g,i*6+j,none⟩),.nilIface])∧Mod noF w w':=by
 have hcall:=arenaAt_hit (R.keep0 ((Mod.refl noF w).alloc (refBox i (x.times - 1)))) hn hi hh (ht i x hi)
 have d0:decide ((j:Int)<0)=false:=by simp
 have d1:decide ((4:Int)≤(j:Int))=false:=by simp;omega
 have d2:(j:Int)<4:=by omega
 have Hcall:=Lib.hid hcall;clear hcall R ht hi hh
 go_enter Tryz.func86,Tryz.ntmps86
 go_wp2_with fail
 refine Hcall.out.mono ?_;rintro e w1 ⟨rfl,hm⟩;have Hm:=Lib.hid (((Mod.refl noF w).alloc _).trans0 hm);clear hm Hcall;go_wp2;go_ret2;exact ⟨rfl,Hm.out⟩
theorem aword_stale(R:AAt w b g l)(E:Errs4 w a)(hn:l.length≤64)(ht:timesOk l)(c r:Int)(h:hereIn l c r=false)(j:Int) :
  Calls Tryz.prog 86 #[.pointer (some ⟨b,0,none⟩),.agg #[.int .i64 c,.int .i64 r],.int .i64 j] w fun e w'=>e=.returned (.tuple #[.pointer none,errV a 6])∧Mod noF w w':=by
 have hq:=(Mod.refl noF w).alloc (refBox c r);have hcall:=arenaAt_miss (R.keep0 hq) (E.keep hq) hn ht c r h;unfold errV at hcall;have Hcall:=Lib.hid hcall;clear hcall R E ht h hq
 go_enter Tryz.func86,Tryz.ntmps86
 go_wp2_with fail
 refine Hcall.out.mono ?_;rintro e w1 ⟨rfl,hm⟩;have Hm:=Lib.hid (((Mod.refl noF w).alloc _).trans0 hm);clear hm Hcall;go_wp2;go_ret2;exact ⟨rfl,Hm.out⟩
theorem aword_bound(R:AAt w b g l)(E:Errs4 w a)(hn:l.length≤64)(ht:timesOk l){i:Nat}{x:Cell}(hi:l[i]?=some x)(hh:x.here=true)(j:Int)(hj:j<0∨4≤j) :
  Calls Tryz.prog 86 #[.pointer (some ⟨b,0,none⟩),.agg #[.int .i64 i,.int .i64 (x.times - 1)],.int .i64 j] w fun e w'=>e=.returned (.tuple #[.pointer none,errV a 1])∧Mod noF w w':=by
 have hcall:=arenaAt_hit (R.keep0 ((Mod.refl noF w).alloc (refBox i (x.times - 1)))) hn hi hh (ht i x hi);have HE:=Lib.hid E;have Hcall:=Lib.hid hcall;clear hcall R ht hi hh E
 by_cases j0:j<0
 ·have d0:decide (j<0)=true:=by simpa using j0
  go_enter Tryz.func86,Tryz.ntmps86
  go_wp2_with fail
  refine Hcall.out.mono ?_;rintro e w1 ⟨rfl,hm⟩;have hm':=((Mod.refl noF w).alloc _).trans0 hm;have hv:=(HE.out.keep hm').v1;have Hm:=Lib.hid hm';clear hm hm' Hcall;go_wp2
  go_quiet (fail)
  go_wp2;go_ret2;exact ⟨rfl,Hm.out.drewN _⟩
 ·have d0:decide (j<0)=false:=by simpa using j0
  have d1:decide (4≤j)=true:=by simp;omega
  go_enter Tryz.func86,Tryz.ntmps86
  go_wp2_with fail
  refine Hcall.out.mono ?_;rintro e w1 ⟨rfl,hm⟩;have hm':=((Mod.refl noF w).alloc _).trans0 hm;have hv:=(HE.out.keep hm').v1;have Hm:=Lib.hid hm';clear hm hm' Hcall;go_wp2
  go_quiet (fail)
  go_wp2;go_ret2;exact ⟨rfl,Hm.out.drewN _⟩
def loadE(l:List Cell)(c r j:Int):Int × Int:=if hereIn l c r then (if 0≤j∧j<4 then (getWord l c.toNat j.toNat,0)else (0,2))else (0,7)
def errOf'(a:Nat→Addr)(e:Int):Value:=if e=0 then .nilIface else errV a (e.toNat - 1)
theorem acell_word(c:Cell)(j:Nat)(hj:j<4):(acell 0 c)[j]?=some (.int .i64 (c.words.getD j 0)):=by
 rcases (by omega:j=0∨j=1∨j=2∨j=3)with rfl|rfl|rfl|rfl <;> rfl
theorem aload_any(R:AAt w b g l)(E:Errs4 w a)(hn:l.length≤64)(ht:timesOk l)(c r j:Int) :
  Calls Tryz.prog 104 #[.pointer (some ⟨b,0,none⟩),.agg #[.int .i64 c,.int .i64 r],.int .i64 j] w fun e w'=>e=.returned (.tuple #[.int .i64 (loadE l c r j).1,errOf' a (loadE l c r j).2])∧Mod noF w w':=by
 have hq:=(Mod.refl noF w).alloc (refBox c r);have HR:=Lib.hid R;have HE:=Lib.hid E
 cases hin:hereIn l c r with
 |false=>
  have e:loadE l c r j=(0,7):=by simp[loadE,hin]
  rw[e];have hcall:=aword_stale (R.keep0 hq) (E.keep hq) hn ht c r hin j;unfold errV at hcall;have Hcall:=Lib.hid hcall;clear hcall R E ht hin hq e
  go_enter Tryz.func104,Tryz.ntmps104
  go_wp2_with fail
  refine Hcall.out.mono ?_;rintro e w1 ⟨rfl,hm⟩;have Hm:=Lib.hid (((Mod.refl noF w).alloc _).trans0 hm);clear hm Hcall;go_wp2;go_ret2;exact ⟨by simp[errOf',errV],Hm.out⟩
 |true=>
  obtain ⟨i,x,rfl,hil,hi,hh,rfl⟩:=hereIn_at hin
  by_cases hj:0≤j∧j<4
  ·obtain ⟨j,rfl⟩:=Int.eq_ofNat_of_zero_le hj.1
   have e:loadE l i (x.times - 1) j=(x.words.getD j 0,0):=by
    simp only[loadE,hin,if_true,if_pos hj,getWord,Int.toNat_natCast,hi];rfl
   rw[e]
   have hj4:j<4:=by omega
   have hcall:=aword_ok (R.keep0 hq) hn ht hi hh j hj4;have Hcall:=Lib.hid hcall;have Hi:=Lib.hid hi;clear hcall R E ht hin hq e hj hi
   go_enter Tryz.func104,Tryz.ntmps104
   go_wp2_with fail
   refine Hcall.out.mono ?_;rintro e w1 ⟨rfl,hm⟩;have hm':=((Mod.refl noF w).alloc _).trans0 hm;have hc:=((HR.out.keep0 hm').cell Hi.out (j:=j) (by omega)).trans (acell_word x j hj4);have hbl:=(HR.out.keep0 hm').lt.2;have Hm:=Lib.hid hm';clear hm hm' Hcall;go_wp2;go_ret2
   exact ⟨by simp[errOf'],Hm.out⟩
  ·have e:loadE l i (x.times - 1) j=(0,2):=by simp only[loadE,hin,if_true,if_neg hj]
   rw[e];have hcall:=aword_bound (R.keep0 hq) (E.keep hq) hn ht hi hh j (by omega);unfold errV at hcall;have Hcall:=Lib.hid hcall;clear hcall R E ht hin hq e hj hi
   go_enter Tryz.func104,Tryz.ntmps104
   go_wp2_with fail
   refine Hcall.out.mono ?_;rintro e w1 ⟨rfl,hm⟩;have Hm:=Lib.hid (((Mod.refl noF w).alloc _).trans0 hm);clear hm Hcall;go_wp2;go_ret2;exact ⟨by simp[errOf',errV],Hm.out⟩
def storeE(l:List Cell)(c r j v:Int):Int:=if hereIn l c r then (if 0≤j∧j<4 then (if isWord v then 0 else 2)else 2)else 7
theorem acell_setWord(c:Cell)(hc:c.words.length=4)(j:Nat)(hj:j<4)(v:Int):acell 0 {c with words:=c.words.set j v} = (acell 0 c).set j (.int .i64 v):=by
 obtain ⟨ws,t,h⟩:=c
 match ws,hc with
 |[a0,a1,a2,a3],_=>
  rcases (by omega:j=0∨j=1∨j=2∨j=3)with rfl|rfl|rfl|rfl <;> rfl
def wordsOk(l:List Cell):Prop:=∀(i:Nat) c,l[i]?=some c→c.words.length=4
theorem modify_at{l:List Cell}{i:Nat}{c:Cell}(hi:l[i]?=some c)(f:Cell→Cell):l.modify i f=l.set i (f c):=by
 apply List.ext_getElem?;intro k;rw[List.getElem?_modify,List.getElem?_set];have hlt:=(List.getElem?_eq_some_iff.1 hi).1
 by_cases e:i=k
 ·subst e;have:=(List.getElem?_eq_some_iff.1 hi).2;simp[hlt,this]
 ·simp[e]
theorem setWord_at{l:List Cell}{i j:Nat}{v:Int}{c:Cell}(hi:l[i]?=some c):setWord l i j v=l.set i {c with words:=c.words.set j v}:=by
 unfold setWord;rw[modify_at hi]
theorem astore_any(R:AAt w b g l)(E:Errs4 w a)(hn:l.length≤64)(ht:timesOk l)(hwo:wordsOk l)(c r j v:Int) :
  Calls Tryz.prog 42 #[.pointer (some ⟨b,0,none⟩),.agg #[.int .i64 c,.int .i64 r],.int .i64 j,.int .i64 v] w fun e w'=>e=.returned (errOf' a (storeE l c r j v))∧Mod (fun x=>x=g) w w'∧
   AAt w' b g (if storeE l c r j v=0 then setWord l c.toNat j.toNat v else l):=by
 have hq:=(Mod.refl noF w).alloc (refBox c r);have HR:=Lib.hid R;have HE:=Lib.hid E
 cases hin:hereIn l c r with
 |false=>
  have e:storeE l c r j v=7:=by simp[storeE,hin]
  rw[e];have hcall:=aword_stale (R.keep0 hq) (E.keep hq) hn ht c r hin j;unfold errV at hcall;have Hcall:=Lib.hid hcall;clear hcall R E ht hin hq e
  go_enter Tryz.func42,Tryz.ntmps42
  go_wp2_with fail
  refine Hcall.out.mono ?_;rintro e w1 ⟨rfl,hm⟩;have Hm:=Lib.hid (((Mod.refl noF w).alloc _).trans0 hm);clear hm Hcall;go_wp2;go_ret;exact ⟨by simp[errOf',errV],Hm.out.any,by simpa using HR.out.keep0 Hm.out⟩
 |true=>
  obtain ⟨i,x,rfl,hil,hi,hh,rfl⟩:=hereIn_at hin
  by_cases hj:0≤j∧j<4
  ·obtain ⟨j,rfl⟩:=Int.eq_ofNat_of_zero_le hj.1
   have hj4:j<4:=by omega
   have hcall:=aword_ok (R.keep0 hq) hn ht hi hh j hj4;have Hcall:=Lib.hid hcall;have Hi:=Lib.hid hi;have Hwo:=Lib.hid hwo
   cases hw:isWord v with
   |true=>
    have e:storeE l i (x.times - 1) j v=0:=by simp only[storeE,hin,if_true,if_pos hj,hw]
    rw[e,if_pos rfl,setWord_at (by rw[Int.toNat_natCast];exact hi)];have Hw:=Lib.hid hw;clear hcall R E ht hin hq e hj hi hwo hw
    go_enter Tryz.func42,Tryz.ntmps42
    go_wp2_with fail
    refine Hcall.out.mono ?_;rintro e w1 ⟨rfl,hm⟩;have hm':=((Mod.refl noF w).alloc _).trans0 hm;have R1:=HR.out.keep0 hm';have hc:=(R1.cell Hi.out (j:=j) (by omega)).trans (acell_word x j hj4);have hf:=R1.free (i*6+j);have hbl:=R1.lt.2;have Hm:=Lib.hid hm';have HR1:=Lib.hid R1;clear hm hm' Hcall R1
    go_wp2_with (go_at_call 78;refine (right_any _ _).mono ?_;rintro e w' ⟨rfl,rfl⟩;rw[Hw.out])
    go_ret;refine ⟨by simp[errOf'],(Hm.out.any (F:=fun x=>x=g)).setCell (fun _=>rfl) _,?_⟩;rw[Int.toNat_natCast,Int.toNat_natCast];exact HR1.out.set Hi.out (by omega) _ (acell_setWord x (Hwo.out i x Hi.out) j hj4 v)
   |false=>
    have e:storeE l i (x.times - 1) j v=2:=by simp only[storeE,hin,if_true,if_pos hj,hw];rfl
    rw[e];have Hw:=Lib.hid hw;clear hcall R E ht hin hq e hj hi hwo hw
    go_enter Tryz.func42,Tryz.ntmps42
    go_wp2_with fail
    refine Hcall.out.mono ?_;rintro e w1 ⟨rfl,hm⟩;have hm':=((Mod.refl noF w).alloc _).trans0 hm;have hv:=(HE.out.keep hm').v1;have Hm:=Lib.hid hm';clear hm hm' Hcall
    go_wp2_with (go_at_call 78;refine (right_any _ _).mono ?_;rintro e w' ⟨rfl,rfl⟩;rw[Hw.out])
    go_ret;exact ⟨by simp[errOf',errV],Hm.out.any,by simpa using HR.out.keep0 Hm.out⟩
  ·have e:storeE l i (x.times - 1) j v=2:=by simp only[storeE,hin,if_true,if_neg hj]
   rw[e];have hcall:=aword_bound (R.keep0 hq) (E.keep hq) hn ht hi hh j (by omega);unfold errV at hcall;have Hcall:=Lib.hid hcall;clear hcall R E ht hin hq e hj hi hwo
   go_enter Tryz.func42,Tryz.ntmps42
   go_wp2_with fail
   refine Hcall.out.mono ?_;rintro e w1 ⟨rfl,hm⟩;have Hm:=Lib.hid (((Mod.refl noF w).alloc _).trans0 hm);clear hm Hcall;go_wp2;go_ret;exact ⟨by simp[errOf',errV],Hm.out.any,by simpa using HR.out.keep0 Hm.out⟩
theorem afree_any(R:AAt w b g l)(E:Errs4 w a)(hn:l.length≤64)(ht:timesOk l)(c r:Int) :
  Calls Tryz.prog 123 #[.pointer (some ⟨b,0,none⟩),.agg #[.int .i64 c,.int .i64 r]] w fun e w'=>e=.returned (errOf' a (if hereIn l c r then 0 else 7))∧Mod (fun x=>x=g) w w'∧
   AAt w' b g (if hereIn l c r then l.modify c.toNat (fun y=>{y with here:=false})else l):=by
 have hq:=(Mod.refl noF w).alloc (refBox c r);have HR:=Lib.hid R
 cases hin:hereIn l c r with
 |false=>
  have hcall:=arenaAt_miss (R.keep0 hq) (E.keep hq) hn ht c r hin;unfold errV at hcall;have Hcall:=Lib.hid hcall;clear hcall R E ht hin hq
  go_enter Tryz.func123,Tryz.ntmps123
  go_wp2_with fail
  refine Hcall.out.mono ?_;rintro e w1 ⟨rfl,hm⟩;have Hm:=Lib.hid (((Mod.refl noF w).alloc _).trans0 hm);clear hm Hcall;go_wp2;go_ret;exact ⟨by simp[errOf',errV],Hm.out.any,by simpa using HR.out.keep0 Hm.out⟩
 |true=>
  obtain ⟨i,x,rfl,hil,hi,hh,rfl⟩:=hereIn_at hin;have hcall:=arenaAt_hit (R.keep0 hq) hn hi hh (ht i x hi);have Hcall:=Lib.hid hcall;have Hi:=Lib.hid hi;clear hcall R E ht hin hq hi
  go_enter Tryz.func123,Tryz.ntmps123
  go_wp2_with fail
  refine Hcall.out.mono ?_;rintro e w1 ⟨rfl,hm⟩;have hm':=((Mod.refl noF w).alloc _).trans0 hm;have R1:=HR.out.keep0 hm';have c5:w1.cell? ⟨g,i*6+5,none⟩=some (.bool x.here):=(R1.cell Hi.out (j:=5) (by omega)).trans rfl;have hf:=R1.free (i*6+5);have hbl:=R1.lt.2;have Hm:=Lib.hid hm'
  have HR1:=Lib.hid R1;clear hm hm' Hcall R1;go_wp2;go_ret;refine ⟨by simp[errOf'],(Hm.out.any (F:=fun x=>x=g)).setCell (fun _=>rfl) _,?_⟩;rw[modify_at Hi.out];exact HR1.out.set Hi.out (j:=5) (by omega) (.bool false) rfl
end
section
open Go.RowKit Qs Qh
structure PB where
 bM:Nat
 bA:Nat
 gA:Nat
 bW:Nat
def PFoot(B:PB)(vs:List Value)(x:Nat):Prop:=x=B.bM∨x=B.bA∨x=B.gA∨x=B.bW∨∃v∈vs,v.ownBlock=some x
abbrev waitRow(w:World)(v:Value)(q:List Wt):Prop:=offRow w 182 4 v q.length (flat wtVals 0 q)
structure PMV(w:World)(B:PB)(l:List Cell)(ws:List (List Wt))(vs:List Value):Prop where
 top:∃cap,w.heap[B.bM]?=some (.cells #[.pointer (some ⟨B.bA,0,none⟩),.slice (some ⟨B.bW,0,none⟩) ws.length cap] 107 (0,0))
 arena:AAt w B.bA B.gA l
 rows:∃junk,w.heap[B.bW]?=some (.cells (vs++junk).toArray 180 (0,0))
 len:vs.length=ws.length
 row:∀(t:Nat) v q,vs[t]?=some v→ws[t]?=some q→waitRow w v q
 n1:B.bM≠B.bA∧B.bM≠B.gA∧B.bM≠B.bW∧B.bA≠B.bW∧B.gA≠B.bW
 own:∀v∈vs,∀g,v.ownBlock=some g→g≠B.bM∧g≠B.bA∧g≠B.gA∧g≠B.bW
 sep:∀(i j:Nat) v u g,vs[i]?=some v→vs[j]?=some u→v.ownBlock=some g→u.ownBlock=some g→i=j
variable {w w1 w2 w':World}{B:PB}{l l':List Cell}{ws ws':List (List Wt)}{vs vs':List Value}
theorem PMV.keep{F:Nat→Prop}(h:PMV w B l ws vs)(hM:Mod F w w')(hF:∀x,PFoot B vs x→¬F x):PMV w' B l ws vs:=
 ⟨h.top.elim fun k e=>⟨k,hM.heap e (hF _ (.inl rfl))⟩,h.arena.keep hM (hF _ (.inr (.inl rfl))) (hF _ (.inr (.inr (.inl rfl)))),h.rows.elim fun k e=>⟨k,hM.heap e (hF _ (.inr (.inr (.inr (.inl rfl)))))⟩,h.len,
  fun t v q hv hq=>(h.row t v q hv hq).keep hM fun g hg=>hF g (.inr (.inr (.inr (.inr ⟨v,List.mem_of_getElem? hv,hg⟩)))),h.n1,h.own,h.sep⟩
theorem PMV.keep0(h:PMV w B l ws vs)(hM:Mod noF w w'):PMV w' B l ws vs:=h.keep hM fun _ _ e=>e
theorem PMV.lt(h:PMV w B l ws vs){x:Nat}(hx:PFoot B vs x):x<w.heap.size:=by
 rcases hx with rfl|rfl|rfl|rfl|⟨v,hv,hg⟩
 ·exact h.top.elim fun _ e=>lt_of_block e
 ·exact h.arena.lt.1
 ·exact h.arena.lt.2
 ·exact h.rows.elim fun _ e=>lt_of_block e
 ·obtain ⟨t,ht⟩:=List.mem_iff_getElem?.1 hv
  have:t<ws.length:=by rw[←h.len];exact (List.getElem?_eq_some_iff.1 ht).1
  exact (h.row t v _ ht (List.getElem?_eq_getElem this)).lt x hg
structure PUp(w:World)(B:PB)(vs:List Value)(w':World)(l':List Cell)(ws':List (List Wt))(vs':List Value):Prop where
 rep:PMV w' B l' ws' vs'
 mod:Mod (PFoot B vs) w w'
 foot:∀x,PFoot B vs' x→PFoot B vs x∨w.heap.size≤x
theorem PUp.quiet(h:PMV w B l ws vs)(hM:Mod noF w w'):PUp w B vs w' l ws vs:=⟨h.keep0 hM,hM.any,fun _ h=>.inl h⟩
theorem PUp.trans{l1 l2:List Cell}{ws1 ws2:List (List Wt)}{vs1 vs2:List Value}(h:PUp w B vs w1 l1 ws1 vs1)(k:PUp w1 B vs1 w2 l2 ws2 vs2):PUp w B vs w2 l2 ws2 vs2:=
 ⟨k.rep,h.mod.trans k.mod (fun x hx hf=>(h.foot x hf).resolve_right (by omega)),fun x hx=>(k.foot x hx).elim (fun e=>h.foot x e) (fun e=>.inr (Nat.le_trans h.mod.size e))⟩
theorem PUp.then0{l1:List Cell}{ws1:List (List Wt)}{vs1:List Value}(h:PUp w B vs w1 l1 ws1 vs1)(k:Mod noF w1 w2):PUp w B vs w2 l1 ws1 vs1:=h.trans (PUp.quiet h.rep k)
theorem PUp.aside{l1:List Cell}{ws1:List (List Wt)}{vs1:List Value}{g:Nat}(h:PUp w B vs w1 l1 ws1 vs1)(hne:¬PFoot B vs1 g)(hg:w.heap.size≤g)(hM:Mod (fun x=>x=g) w1 w2):PUp w B vs w2 l1 ws1 vs1:=
 ⟨h.rep.keep hM (fun x hx e=>hne (e ▸ hx)),h.mod.trans hM (fun x hx e=>by omega),h.foot⟩
theorem PUp.heap{l1:List Cell}{ws1:List (List Wt)}{vs1:List Value}{g:Nat}{o:Obj}(h:PUp w B vs w1 l1 ws1 vs1)(hne:¬PFoot B vs g)(hg:w.heap[g]?=some o):w1.heap[g]?=some o:=h.mod.heap hg hne
theorem PMV.cells(h:PMV w B l ws vs)(hM:Mod (fun x=>x=B.gA) w w')(A:AAt w' B.bA B.gA l'):PUp w B vs w' l' ws vs:=by
 obtain ⟨n1,n2,n3,n4,n5⟩:=h.n1
 refine ⟨⟨h.top.elim fun k e=>⟨k,hM.heap e n2⟩,A,h.rows.elim fun k e=>⟨k,hM.heap e (fun e=>n5 e.symm)⟩,h.len,fun t v q hv hq=>(h.row t v q hv hq).keep hM fun g hg=>(h.own v (List.mem_of_getElem? hv) g hg).2.2.1,h.n1,h.own,h.sep⟩,
  hM.mono fun x _ e=>.inr (.inr (.inl e)),fun _ h=>.inl h⟩
theorem PMV.setRow(h:PMV w B l ws vs){t:Nat}{v v':Value}{q':List Wt}(hv:vs[t]?=some v)(hM:Mod (fun x=>v.ownBlock=some x) w w2)(hrow:waitRow w2 v' q')
  (hnew:∀g,v'.ownBlock=some g→v.ownBlock=some g∨w.heap.size≤g):PUp w B vs (w2.setCell ⟨B.bW,t,none⟩ v') l (ws.set t q') (vs.set t v'):=by
 obtain ⟨n1,n2,n3,n4,n5⟩:=h.n1;have hvm:=List.mem_of_getElem? hv;have hown:=h.own v hvm;have htl:t<vs.length:=(List.getElem?_eq_some_iff.1 hv).1;have hM2:Mod (fun x=>x=B.bW) w2 (w2.setCell ⟨B.bW,t,none⟩ v'):=(Mod.refl (fun x=>x=B.bW) w2).setCell (fun _=>rfl) _
 have hlb:∀x,PFoot B vs x→x<w.heap.size:=fun x hx=>h.lt hx
 have hv'own:∀g,v'.ownBlock=some g→g≠B.bM∧g≠B.bA∧g≠B.gA∧g≠B.bW:=fun g hg=>by
  rcases hnew g hg with e|e
  ·exact hown g e
  ·have a1:=hlb _ (.inl rfl);have a2:=hlb _ (.inr (.inl rfl));have a3:=hlb _ (.inr (.inr (.inl rfl)));have a4:=hlb _ (.inr (.inr (.inr (.inl rfl))));exact ⟨by omega,by omega,by omega,by omega⟩
 have hkeep:∀b,(v.ownBlock=some b→False)→b≠B.bW→∀o,w.heap[b]?=some o→(w2.setCell ⟨B.bW,t,none⟩ v').heap[b]?=some o:=fun b h1 h2 o ho=>hM2.heap (hM.heap ho h1) h2;obtain ⟨cap,htop⟩:=h.top;obtain ⟨junk,hrows⟩:=h.rows
 refine ⟨⟨⟨cap,?_⟩,?_,⟨junk,?_⟩,by rw[List.length_set,List.length_set];exact h.len,?_,h.n1,?_,?_⟩,?_,?_⟩
 ·rw[List.length_set];exact hkeep _ (fun e=>(hown _ e).1 rfl) n3 _ htop
 ·exact (h.arena.keep hM (fun e=>(hown _ e).2.1 rfl) (fun e=>(hown _ e).2.2.1 rfl)).keep hM2 n4 n5
 ·have h0:=hM.heap hrows (fun e=>(hown _ e).2.2.2 rfl);have:=Qh.heap_setCell_same h0 t v';rw[this];simp[List.set_append,htl]
 ·intro j u q hu hq;rw[List.getElem?_set]at hu hq
  by_cases e:t=j
  ·subst e;rw[if_pos rfl,if_pos htl]at hu;rw[if_pos rfl,if_pos (by rw[←h.len];exact htl)]at hq;cases hu;cases hq;exact hrow.keep hM2 fun g hg=>(hv'own g hg).2.2.2
  ·rw[if_neg e]at hu hq;refine ((h.row j u q hu hq).keep hM fun g hg hg'=>e (h.sep t j v u g hv hu hg' hg)).keep hM2 fun g hg=>(h.own u (List.mem_of_getElem? hu) g hg).2.2.2
 ·intro u hu g hg
  rcases List.mem_or_eq_of_mem_set hu with h1|rfl
  ·exact h.own u h1 g hg
  ·exact hv'own g hg
 ·intro i j u x g hu hx hug hxg;rw[List.getElem?_set]at hu hx;have low:∀(k:Nat) y,vs[k]?=some y→y.ownBlock=some g→g<w.heap.size:=fun k y hy hg=>hlb g (.inr (.inr (.inr (.inr ⟨y,List.mem_of_getElem? hy,hg⟩))))
  by_cases e1:t=i
  ·subst e1;rw[if_pos rfl,if_pos htl]at hu;cases hu
   by_cases e2:t=j
   ·exact e2
   ·rw[if_neg e2]at hx
    rcases hnew g hug with e|e
    ·exact h.sep t j v x g hv hx e hxg
    ·have:=low j x hx hxg;omega
  ·rw[if_neg e1]at hu
   by_cases e2:t=j
   ·subst e2;rw[if_pos rfl,if_pos htl]at hx;cases hx
    rcases hnew g hxg with e|e
    ·exact h.sep i t u v g hu hv hug e
    ·have:=low i u hu hug;omega
   ·rw[if_neg e2]at hx;exact h.sep i j u x g hu hx hug hxg
 ·exact (hM.mono fun x _ e=>.inr (.inr (.inr (.inr ⟨v,hvm,e⟩)))).trans hM2 (fun x _ e=>.inr (.inr (.inr (.inl e))))
 ·intro x hx
  rcases hx with rfl|rfl|rfl|rfl|⟨u,hu,hg⟩
  ·exact .inl (.inl rfl)
  ·exact .inl (.inr (.inl rfl))
  ·exact .inl (.inr (.inr (.inl rfl)))
  ·exact .inl (.inr (.inr (.inr (.inl rfl))))
  ·rcases List.mem_or_eq_of_mem_set hu with h1|rfl
   ·exact .inl (.inr (.inr (.inr (.inr ⟨u,h1,hg⟩))))
   ·rcases hnew x hg with e|e
    ·exact .inl (.inr (.inr (.inr (.inr ⟨v,hvm,e⟩))))
    ·exact .inr e
theorem PMV.ptr(h:PMV w B l ws vs):w.cell? ⟨B.bM,0,none⟩=some (.pointer (some ⟨B.bA,0,none⟩)):=h.top.elim fun _ e=>(cell_of_heap e 0).trans rfl
theorem PMV.slice(h:PMV w B l ws vs):∃k,w.cell? ⟨B.bM,1,none⟩=some (.slice (some ⟨B.bW,0,none⟩) ws.length k):=h.top.elim fun k e=>⟨k,(cell_of_heap e 1).trans rfl⟩
theorem PMV.rowAt(h:PMV w B l ws vs){t:Nat}{q:List Wt}(hq:ws[t]?=some q):∃v a c,vs[t]?=some v∧v=.slice a q.length c∧q.length≤c∧c≤maxLen∧w.cell? ⟨B.bW,t,none⟩=some (.slice a q.length c)∧waitRow w (.slice a q.length c) q:=by
 have htl:t<vs.length:=by rw[h.len];exact (List.getElem?_eq_some_iff.1 hq).1
 have hv:=List.getElem?_eq_getElem htl;have hr:=h.row t _ q hv hq;obtain ⟨a,c,e,h1,h2⟩:=hr.slice;refine ⟨_,a,c,hv,e,h1,h2,?_,e ▸ hr⟩;obtain ⟨junk,hrows⟩:=h.rows;rw[cell_of_heap hrows,←e];simp[List.getElem?_append,htl]
end
section
open Go.RowKit Qs Qh
variable {w:World}{B:PB}{l:List Cell}{ws:List (List Wt)}{vs:List Value}{a:Nat→Addr}
structure PLow(b0 w:World)(a:Nat→Addr)(B:PB)(vs:List Value):Prop where
 errs:Errs4 b0 a
 mod:Mod noF b0 w
 low:∀x,PFoot B vs x→b0.heap.size≤x
theorem PLow.E{b0:World}(h:PLow b0 w a B vs):Errs4 w a:=h.errs.keep h.mod
theorem PLow.up{b0 w':World}{l':List Cell}{ws':List (List Wt)}{vs':List Value}(h:PLow b0 w a B vs)(u:PUp w B vs w' l' ws' vs'):PLow b0 w' a B vs':=
 ⟨h.errs,h.mod.trans u.mod (fun x hx e=>by have:=h.low x e;omega),fun x hx=>(u.foot x hx).elim (h.low x) (fun e=>Nat.le_trans h.mod.size e)⟩
theorem PLow.keep{b0 w':World}(h:PLow b0 w a B vs)(hM:Mod noF w w'):PLow b0 w' a B vs:=⟨h.errs,h.mod.trans0 hM,h.low⟩
theorem pthread_ok(h:PMV w B l ws vs)(t:Nat)(ht:t<ws.length) :
  Calls Tryz.prog 84 #[.pointer (some ⟨B.bM,0,none⟩),.int .i64 t] w fun e w'=>e=.returned .nilIface∧w=w':=by
 have d0:decide ((t:Int)<0)=false:=by simp
 have d1:decide ((ws.length:Int)≤(t:Int))=false:=by simp;omega
 obtain ⟨kw,hm⟩:=h.slice;have hb:=h.lt (x:=B.bM) (.inl rfl);clear h
 go_enter Tryz.func84,Tryz.ntmps84
 go_wp2;go_ret;exact ⟨rfl,rfl⟩
theorem pwaiting_ok(h:PMV w B l ws vs){t:Nat}{q:List Wt}(hq:ws[t]?=some q)(hn:ws.length≤6) :
  Calls Tryz.prog 89 #[.pointer (some ⟨B.bM,0,none⟩),.int .i64 t] w fun e w'=>e=.returned (.int .i64 q.length)∧w=w':=by
 have ht:=(List.getElem?_eq_some_iff.1 hq).1;obtain ⟨kw,hm⟩:=h.slice;have hb:=h.lt (x:=B.bM) (.inl rfl);have hb2:=h.lt (x:=B.bW) (.inr (.inr (.inr (.inl rfl))));obtain ⟨v,a,c,_,_,h1,h2,h3,_⟩:=h.rowAt hq
 have htn:(t:Int)<(ws.length:Int):=by omega
 have H:=Lib.hid h;clear h hq
 go_enter Tryz.func89,Tryz.ntmps89
 go_wp2_with fail
 refine (pthread_ok H.out t ht).mono ?_;rintro e w' ⟨rfl,rfl⟩;go_wp2;go_ret;exact ⟨rfl,rfl⟩
end
section
open Go.RowKit Qs Qh
variable {w:World}{B:PB}{l:List Cell}{ws:List (List Wt)}{vs:List Value}{a:Nat→Addr}
theorem pwaitRowInfo:(Tryz.prog.info? 180).map (fun i=>(i.zero,i.size,i.bytes))=some (some (.slice none 0 0),1,24):=by kernel_rfl
theorem make_prows(n:Nat)(hn:n≤64)(w:World):(Instr.makeSlice 105 (.int .i64 n) (.int .i64 n)).run Tryz.prog w=.ok (.slice (some ⟨w.heap.size,0,none⟩) n n) (w.alloc (.cells (List.replicate n (.slice none 0 0)).toArray 180)):=by
 obtain ⟨i,hi,hz0,hz1,hz2⟩:=info_parts pwaitRowInfo;have:=run_makeSlice (P:=Tryz.prog) w 105 180 i _ Tryz.underlying105 hi hz0 .i64 .i64 n n (by omega) (by omega) (by rw[hz1];simp;omega) (by rw[hz2];omega) (by omega);rw[this,hz1]
 have e:(madeCells (Value.slice none 0 0).cells (n*1))=(List.replicate n (.slice none 0 0)).toArray:=by
  rw[←toList_madeCells_one];simp[Value.cells]
 simp only[Int.toNat_natCast];rw[e]
theorem pmNew_ok(n t:Nat)(h1:1≤n)(hn:n≤64)(t1:1≤t)(t6:t≤6)(w:World) :
  Calls Tryz.prog 32 #[.int .i64 n,.int .i64 t] w fun e w'=>∃B:PB,e=.returned (.tuple #[.pointer (some ⟨B.bM,0,none⟩),.nilIface])∧PMV w' B (List.replicate n freshCell) (List.replicate t []) (List.replicate t (.slice none 0 0))∧Mod noF w w'∧∀x,PFoot B (List.replicate t (.slice none 0 0)) x→w.heap.size≤x:=by
 have d0:decide ((t:Int)<1)=false:=by simp;omega
 have d1:decide ((6:Int)<(t:Int))=false:=by simp;omega
 have hmk:=make_prows t (by omega)
 go_enter Tryz.func32,Tryz.ntmps32
 go_wp2_with fail
 refine (arenaNew_ok n h1 hn w).mono ?_;rintro e w1 ⟨rfl,A1,hm1⟩;have HA1:=Lib.hid A1;have Hm1:=Lib.hid hm1;clear A1 hm1;go_wp2;have hs1:=Hm1.out.size;have hlt:=HA1.out.lt;have hx0:=heap_alloc_new w1 (.cells (Array.replicate t (.slice none 0 0)) 180)
 have hx1:=heap_alloc_new (w1.alloc (.cells (Array.replicate t (.slice none 0 0)) 180)) (.cells #[.pointer (some ⟨w.heap.size+1,0,none⟩),.slice (some ⟨w1.heap.size,0,none⟩) t t] 107)
 have hM:=((Mod.refl noF w1).alloc (.cells (Array.replicate t (.slice none 0 0)) 180)).alloc (.cells #[.pointer (some ⟨w.heap.size+1,0,none⟩),.slice (some ⟨w1.heap.size,0,none⟩) t t] 107)
 have hM1:=(Mod.refl noF (w1.alloc (.cells (Array.replicate t (.slice none 0 0)) 180))).alloc (.cells #[.pointer (some ⟨w.heap.size+1,0,none⟩),.slice (some ⟨w1.heap.size,0,none⟩) t t] 107);rw[World.size_alloc]at hx1;go_ret2
 refine ⟨⟨w1.heap.size+1,w.heap.size+1,w.heap.size,w1.heap.size⟩,rfl,⟨⟨t,?_⟩,HA1.out.keep0 hM,⟨[],?_⟩,by simp,?_,?_,?_,?_⟩,Hm1.out.trans0 hM,?_⟩
 ·rw[List.length_replicate];exact hx1
 ·rw[List.append_nil,List.toArray_replicate];exact hM1.heap hx0 (fun e=>e)
 ·intro i v q hv hq;obtain rfl:=List.eq_of_mem_replicate (List.mem_of_getElem? hv);obtain rfl:=List.eq_of_mem_replicate (List.mem_of_getElem? hq);exact offRow_nil _ _ _
 ·exact ⟨by simp only;omega,by simp only;omega,by simp only;omega,by simp only;omega,by simp only;omega⟩
 ·intro v hv g hg;obtain rfl:=List.eq_of_mem_replicate hv;simp[Value.ownBlock]at hg
 ·intro i j v u g hv _ hg;obtain rfl:=List.eq_of_mem_replicate (List.mem_of_getElem? hv);simp[Value.ownBlock]at hg
 ·rintro x (rfl|rfl|rfl|rfl|⟨v,hv,hg⟩)
  ·simp only;omega
  ·simp only;omega
  ·exact Nat.le_refl _
  ·exact hs1
  ·obtain rfl:=List.eq_of_mem_replicate hv;simp[Value.ownBlock]at hg
theorem pmNew_cells(n t:Int)(h:n<1∨64<n)(w:World)(E:Errs4 w a) :
  Calls Tryz.prog 32 #[.int .i64 n,.int .i64 t] w fun e w'=>e=.returned (.tuple #[.pointer none,errV a 1])∧Mod noF w w':=by
 have hcall:=arenaNew_bad n h w a E;unfold errV at hcall;have Hcall:=Lib.hid hcall;clear hcall h E
 go_enter Tryz.func32,Tryz.ntmps32
 go_wp2_with fail
 refine Hcall.out.mono ?_;rintro e w1 ⟨rfl,hm1⟩;have Hm1:=Lib.hid hm1;clear hm1;go_wp2;go_ret2;exact ⟨rfl,Hm1.out⟩
theorem pmNew_threads(n:Nat)(t:Int)(h1:1≤n)(hn:n≤64)(h:t<1∨6<t)(w:World)(E:Errs4 w a) :
  Calls Tryz.prog 32 #[.int .i64 n,.int .i64 t] w fun e w'=>e=.returned (.tuple #[.pointer none,errV a 1])∧Mod noF w w':=by
 have HE:=Lib.hid E;clear E
 by_cases h0:t<1
 ·have d0:decide (t<1)=true:=by simpa using h0
  clear h
  go_enter Tryz.func32,Tryz.ntmps32
  go_wp2_with fail
  refine (arenaNew_ok n h1 hn w).mono ?_;rintro e w1 ⟨rfl,A1,hm1⟩;have hv:=(HE.out.keep hm1).v1;have Hm1:=Lib.hid hm1;clear A1 hm1;go_wp2
  go_quiet (fail)
  go_wp2;go_ret2;exact ⟨rfl,Hm1.out.drewN _⟩
 ·have d0:decide (t<1)=false:=by simpa using h0
  have d1:decide (6<t)=true:=by simp;omega
  clear h
  go_enter Tryz.func32,Tryz.ntmps32
  go_wp2_with fail
  refine (arenaNew_ok n h1 hn w).mono ?_;rintro e w1 ⟨rfl,A1,hm1⟩;have hv:=(HE.out.keep hm1).v1;have Hm1:=Lib.hid hm1;clear A1 hm1;go_wp2
  go_quiet (fail)
  go_wp2;go_ret2;exact ⟨rfl,Hm1.out.drewN _⟩
theorem pmAlloc_ok(h:PMV w B l ws vs)(E:Errs4 w a)(hn:l.length≤64)(ht:timesOk l){t:Nat}(htl:t<ws.length) :
  Calls Tryz.prog 41 #[.pointer (some ⟨B.bM,0,none⟩),.int .i64 t] w fun e w'=>
   (∃i c,allocAt l 0=some (i,c.times)∧l[i]?=some c∧e=.returned (.tuple #[.agg #[.int .i64 i,.int .i64 c.times],.nilIface])∧PUp w B vs w' (l.set i (givenCell c)) ws vs)∨
   (allocAt l 0=none∧e=.returned (.tuple #[.agg #[.int .i64 0,.int .i64 0],errV a 5])∧PUp w B vs w' l ws vs):=by
 have hq:=(Mod.refl noF w).alloc (refBox 0 0);have h2:=h.keep0 hq;have hu:=PUp.quiet h hq;have hp:=h2.ptr;have hb:=h2.lt (x:=B.bM) (.inl rfl);have hcall:=arenaAlloc h2.arena (E.keep hq) hn ht;unfold errV at hcall;have Hcall:=Lib.hid hcall;have H:=Lib.hid h2;have Hu:=Lib.hid hu
 have hnew:=heap_alloc_new w (refBox 0 0);have hnf:¬PFoot B vs w.heap.size:=fun hx=>Nat.lt_irrefl _ (h.lt hx);have hgA:=h.lt (x:=B.gA) (.inr (.inr (.inl rfl)));have Hnew:=Lib.hid hnew;have Hnf:=Lib.hid hnf;clear h h2 hu hq E ht hcall hnew hnf
 go_enter Tryz.func41,Tryz.ntmps41
 go_wp2_with fail
 refine (pthread_ok H.out t htl).mono ?_;rintro e w' ⟨rfl,rfl⟩
 go_wp2_with fail
 refine Hcall.out.mono ?_;rintro e w1 (⟨i,c,ha,hc,rfl,A1,hm1⟩|⟨ha,rfl,hm1⟩)
 ·have hx1:=hm1.heap Hnew.out (by omega);have c0:w1.cell? ⟨w.heap.size,0,none⟩=some (.int .i64 0):=(cell_of_heap hx1 0).trans rfl;have c1:w1.cell? ⟨w.heap.size,1,none⟩=some (.int .i64 0):=(cell_of_heap hx1 1).trans rfl;have f0:=free_of_heap hx1 0;have f1:=free_of_heap hx1 1;have hb1:=lt_of_block hx1
  have hup:=Hu.out.trans (H.out.cells hm1 A1);have Hup:=Lib.hid hup;clear A1 hm1 hup hx1 Hcall;go_wp2
  refine bodyPost_ret (v:=.tuple #[.agg #[.int .i64 i,.int .i64 c.times],.nilIface]) (by simp[results,Tryz.results41,go_sem,c0,c1]) rfl (.inl ⟨i,c,ha,hc,rfl,Hup.out.aside Hnf.out (Nat.le_refl _) (((Mod.refl (fun x=>x=w.heap.size) w1).setCell (fun _=>rfl) _).setCell (fun _=>rfl) _)⟩)
 ·have hx1:=hm1.heap Hnew.out (fun e=>e);have c0:w1.cell? ⟨w.heap.size,0,none⟩=some (.int .i64 0):=(cell_of_heap hx1 0).trans rfl;have c1:w1.cell? ⟨w.heap.size,1,none⟩=some (.int .i64 0):=(cell_of_heap hx1 1).trans rfl;have f0:=free_of_heap hx1 0;have f1:=free_of_heap hx1 1;have hb1:=lt_of_block hx1
  have hup:=Hu.out.then0 hm1;have Hup:=Lib.hid hup;clear hm1 hup hx1 Hcall;go_wp2
  refine bodyPost_ret (v:=.tuple #[.agg #[.int .i64 0,.int .i64 0],errV a 5]) (by simp[results,Tryz.results41,go_sem,c0,c1,errV]) rfl (.inr ⟨ha,rfl,Hup.out.aside Hnf.out (Nat.le_refl _) (((Mod.refl (fun x=>x=w.heap.size) w1).setCell (fun _=>rfl) _).setCell (fun _=>rfl) _)⟩)
end
section
open Go.RowKit Qs Qh
variable {w:World}{B:PB}{l:List Cell}{ws:List (List Wt)}{vs:List Value}{a:Nat→Addr}
theorem pdrain_none(h:PMV w B l ws vs)(E:Errs4 w a){t:Nat}(hq:ws[t]?=some [])(hn6:ws.length≤6) :
  Calls Tryz.prog 57 #[.pointer (some ⟨B.bM,0,none⟩),.int .i64 t] w fun e w'=>e=.returned (errV a 4)∧Mod noF w w':=by
 have htl:=(List.getElem?_eq_some_iff.1 hq).1;obtain ⟨kw,hm⟩:=h.slice;have hb:=h.lt (x:=B.bM) (.inl rfl);have hb2:=h.lt (x:=B.bW) (.inr (.inr (.inr (.inl rfl))));obtain ⟨v,ra,c,_,_,h1,h2,h3,_⟩:=h.rowAt hq
 have htn:(t:Int)<(ws.length:Int):=by omega
 have hvar:=E.v4;have H:=Lib.hid h;simp only[List.length_nil]at h3;clear h hq E
 go_enter Tryz.func57,Tryz.ntmps57
 go_wp2_with fail
 refine (pthread_ok H.out t htl).mono ?_;rintro e w' ⟨rfl,rfl⟩;go_wp2;go_ret;exact ⟨rfl,Mod.refl _ _⟩
def pdrainE(w:World)(a:Nat→Addr)(B:PB)(l:List Cell)(ws:List (List Wt))(vs:List Value)(t:Nat)(x:Wt)(q:List Wt)(e:Ending)(w':World):Prop:=
 e=.returned (errOf' a (storeE l x.c x.g x.w x.v))∧∃vs',PUp w B vs w' (if storeE l x.c x.g x.w x.v=0 then setWord l x.c.toNat x.w.toNat x.v else l) (ws.set t q) vs'
theorem pdrain_some{b0:World}(h:PMV w B l ws vs)(E:PLow b0 w a B vs)(hn:l.length≤64)(ht:timesOk l)(hwo:wordsOk l){t:Nat}{x:Wt}{q:List Wt}(hq:ws[t]?=some (x :: q))(hn6:ws.length≤6)(hq8:q.length≤8) :
  Calls Tryz.prog 57 #[.pointer (some ⟨B.bM,0,none⟩),.int .i64 t] w (pdrainE w a B l ws vs t x q):=by
 have htl:=(List.getElem?_eq_some_iff.1 hq).1;obtain ⟨kw,hm⟩:=h.slice;have hb:=h.lt (x:=B.bM) (.inl rfl);have hb2:=h.lt (x:=B.bW) (.inr (.inr (.inr (.inl rfl))));obtain ⟨v,ra,c,hvv,rfl,h1,h2,h3,hrow⟩:=h.rowAt hq;obtain ⟨g,s,c',e',hg,hfz,hcell⟩:=hrow.cell (by simp)
 simp only[Value.slice.injEq,true_and]at e';obtain ⟨rfl,rfl⟩:=e';have x0:w.cell? ⟨g,s,none⟩=some (.int .i64 x.c):=hcell 0 _ rfl;have x1:w.cell? ⟨g,s+1,none⟩=some (.int .i64 x.g):=hcell 1 _ rfl;have x2:w.cell? ⟨g,s+2,none⟩=some (.int .i64 x.w):=hcell 2 _ rfl
 have x3:w.cell? ⟨g,s+3,none⟩=some (.int .i64 x.v):=hcell 3 _ rfl
 have htn:(t:Int)<(ws.length:Int):=by omega
 have hf:=h.rows.elim fun _ e=>free_of_heap e t;simp only[List.length_cons]at h1 h3 hrow hvv
 have dq:decide (((q.length+1:Nat):Int)=0)=false:=by simp;omega
 have H:=Lib.hid h;have HE:=Lib.hid E;have Hrow:=Lib.hid hrow;have Hvv:=Lib.hid hvv;clear h hq E hrow hvv hcell hfz
 go_enter Tryz.func57,Tryz.ntmps57
 go_wp2_with fail
 refine (pthread_ok H.out t htl).mono ?_;rintro e w' ⟨rfl,rfl⟩
 go_wp2_with fail
 obtain ⟨wz,hwz⟩:∃wz,wz=w.alloc (.cells #[.int .i64 x.c,.int .i64 x.g,.int .i64 x.w,.int .i64 x.v] 182):=⟨_,rfl⟩;rw[←hwz];have hz:Mod noF w wz:=hwz ▸ (Mod.refl noF w).alloc _
 have hx:wz.heap[w.heap.size]?=some (.cells #[.int .i64 x.c,.int .i64 x.g,.int .i64 x.w,.int .i64 x.v] 182):=hwz ▸ heap_alloc_new w _;have hZ:=H.out.keep0 hz;obtain ⟨kw,zm⟩:=hZ.slice;have zb:=hZ.lt (x:=B.bM) (.inl rfl);have zb2:=hZ.lt (x:=B.bW) (.inr (.inr (.inr (.inl rfl))))
 have z3:=hz.cell h3 (fun e=>e);have zf:=hZ.rows.elim fun _ e=>free_of_heap e t;have HZ:=Lib.hid hZ;have Hz:=Lib.hid hz;have Hx:=Lib.hid hx;clear hwz hZ hz hx hm hb hb2 h3 hf x0 x1 x2 x3
 have hq1:(1:Int)≤(q.length:Int)+1:=by omega
 have hq2:(1:Int)≤((q.length+1:Nat):Int):=by omega
 by_cases hc1:c=1
 ·subst hc1;obtain rfl:q=[]:=List.eq_nil_of_length_eq_zero (by omega);refine wp_region_still_tail 14 (by kernel_rfl) (by kernel_rfl) ?_;simp only[List.take_succ_cons,List.take_zero,List.drop_succ_cons,List.drop_zero,World.drew_eq]
  repeat (first|still_step)
  refine wpStill_nil ?_
  go_wp2_with fail
  have hsr:=H.out.setRow (w2:=wz) (v':=.slice (some ⟨g,s,none⟩) 0 0) (q':=[]) Hvv.out Hz.out.any (by have:=Hrow.out.tail.keep Hz.out (fun _ _ e=>e);simpa[waitRow,flat,wtVals]using this) (fun g' hg'=>.inl hg');have hsr3:=hsr.then0 (Mod.refl noF _).drew
  have hgt:=H.out.lt (x:=B.bW) (.inr (.inr (.inr (.inl rfl))))
  have hx3:(wz.setCell ⟨B.bW,t,none⟩ (.slice (some ⟨g,s,none⟩) 0 0)).drew.heap[w.heap.size]?=some (.cells #[.int .i64 x.c,.int .i64 x.g,.int .i64 x.w,.int .i64 x.v] 182):=(Qh.heap_setCell_other (w:=wz) (k:=w.heap.size) (b:=B.bW) (i:=t) (by omega) _).trans Hx.out
  obtain ⟨w3,hw3⟩:∃w3,w3=(wz.setCell ⟨B.bW,t,none⟩ (.slice (some ⟨g,s,none⟩) 0 0)).drew:=⟨_,rfl⟩;rw[←hw3]at hsr3 hx3 ⊢;clear hw3 hsr;have L3:=HE.out.up hsr3;have hp3:=hsr3.rep.ptr;have hb3:=hsr3.rep.lt (x:=B.bM) (.inl rfl)
  have hne:w.heap.size≠B.gA:=by have:=H.out.lt (x:=B.gA) (.inr (.inr (.inl rfl)));omega
  have y0:w3.cell? ⟨w.heap.size,0,none⟩=some (.int .i64 x.c):=(cell_of_heap hx3 0).trans rfl;have y1:w3.cell? ⟨w.heap.size,1,none⟩=some (.int .i64 x.g):=(cell_of_heap hx3 1).trans rfl;have y2:w3.cell? ⟨w.heap.size,2,none⟩=some (.int .i64 x.w):=(cell_of_heap hx3 2).trans rfl
  have y3:w3.cell? ⟨w.heap.size,3,none⟩=some (.int .i64 x.v):=(cell_of_heap hx3 3).trans rfl;have yb:=lt_of_block hx3;have Hsr3:=Lib.hid hsr3;have HL3:=Lib.hid L3;clear hsr3 L3 hx3 z3 zf zm zb zb2;refine wp_region_still_tail 10 (by kernel_rfl) (by kernel_rfl) ?_
  simp only[List.take_succ_cons,List.take_zero,List.drop_succ_cons,List.drop_zero,World.drew_eq]
  repeat (first|still_step)
  refine wpStill_nil ?_
  go_wp2_with fail
  refine (astore_any (Hsr3.out.rep.arena.keep0 (Mod.refl noF w3).drew) (HL3.out.E.keep (Mod.refl noF w3).drew) hn ht hwo x.c x.g x.w x.v).mono ?_;rintro e w4 ⟨rfl,hm4,A4⟩;have hup:=(Hsr3.out.then0 (Mod.refl noF w3).drew).trans ((Hsr3.out.rep.keep0 (Mod.refl noF w3).drew).cells hm4 A4)
  have Hup:=Lib.hid hup;clear hm4 A4 hup;go_wp2;go_ret;exact ⟨rfl,_,Hup.out⟩
 ·have hc2:¬1=c:=fun e=>hc1 e.symm;refine wp_region_still_tail 14 (by kernel_rfl) (by kernel_rfl) ?_;simp only[List.take_succ_cons,List.take_zero,List.drop_succ_cons,List.drop_zero,World.drew_eq]
  repeat (first|still_step)
  refine wpStill_nil ?_
  go_wp2_with fail
  have hsr:=H.out.setRow (w2:=wz) (v':=.slice (some ⟨g,s+4,none⟩) q.length (c - 1)) (q':=q) Hvv.out Hz.out.any (by have:=Hrow.out.tail.keep Hz.out (fun _ _ e=>e);rw[if_neg hc1]at this;unfold waitRow;rw[flat_wt_start q 0 1];simpa[flat,wtVals]using this) (fun g' hg'=>.inl hg')
  have hsr3:=hsr.then0 (Mod.refl noF _).drew;have hgt:=H.out.lt (x:=B.bW) (.inr (.inr (.inr (.inl rfl))))
  have hx3:(wz.setCell ⟨B.bW,t,none⟩ (.slice (some ⟨g,s+4,none⟩) q.length (c - 1))).drew.heap[w.heap.size]?=some (.cells #[.int .i64 x.c,.int .i64 x.g,.int .i64 x.w,.int .i64 x.v] 182):=(Qh.heap_setCell_other (w:=wz) (k:=w.heap.size) (b:=B.bW) (i:=t) (by omega) _).trans Hx.out
  obtain ⟨w3,hw3⟩:∃w3,w3=(wz.setCell ⟨B.bW,t,none⟩ (.slice (some ⟨g,s+4,none⟩) q.length (c - 1))).drew:=⟨_,rfl⟩;rw[←hw3]at hsr3 hx3 ⊢;clear hw3 hsr;have L3:=HE.out.up hsr3;have hp3:=hsr3.rep.ptr;have hb3:=hsr3.rep.lt (x:=B.bM) (.inl rfl)
  have hne:w.heap.size≠B.gA:=by have:=H.out.lt (x:=B.gA) (.inr (.inr (.inl rfl)));omega
  have y0:w3.cell? ⟨w.heap.size,0,none⟩=some (.int .i64 x.c):=(cell_of_heap hx3 0).trans rfl;have y1:w3.cell? ⟨w.heap.size,1,none⟩=some (.int .i64 x.g):=(cell_of_heap hx3 1).trans rfl;have y2:w3.cell? ⟨w.heap.size,2,none⟩=some (.int .i64 x.w):=(cell_of_heap hx3 2).trans rfl
  have y3:w3.cell? ⟨w.heap.size,3,none⟩=some (.int .i64 x.v):=(cell_of_heap hx3 3).trans rfl;have yb:=lt_of_block hx3;have Hsr3:=Lib.hid hsr3;have HL3:=Lib.hid L3;clear hsr3 L3 hx3 z3 zf zm zb zb2;refine wp_region_still_tail 10 (by kernel_rfl) (by kernel_rfl) ?_
  simp only[List.take_succ_cons,List.take_zero,List.drop_succ_cons,List.drop_zero,World.drew_eq]
  repeat (first|still_step)
  refine wpStill_nil ?_
  go_wp2_with fail
  refine (astore_any (Hsr3.out.rep.arena.keep0 (Mod.refl noF w3).drew) (HL3.out.E.keep (Mod.refl noF w3).drew) hn ht hwo x.c x.g x.w x.v).mono ?_;rintro e w4 ⟨rfl,hm4,A4⟩;have hup:=(Hsr3.out.then0 (Mod.refl noF w3).drew).trans ((Hsr3.out.rep.keep0 (Mod.refl noF w3).drew).cells hm4 A4)
  have Hup:=Lib.hid hup;clear hm4 A4 hup;go_wp2;go_ret;exact ⟨rfl,_,Hup.out⟩
end
section
open Go.RowKit Qs Qh
def okW(q:List Wt):Prop:=∀x∈q,isWord x.v=true∧0≤x.w∧x.w<4
theorem storeE_ok{l:List Cell}{x:Wt}(h:isWord x.v=true∧0≤x.w∧x.w<4):storeE l x.c x.g x.w x.v=if hereIn l x.c x.g then 0 else 7:=by
 obtain ⟨h1,h2,h3⟩:=h;unfold storeE;simp[h1,h2,h3]
theorem drain1_store{l:List Cell}{x:Wt}(h:isWord x.v=true∧0≤x.w∧x.w<4):(drain1 l x).1=if storeE l x.c x.g x.w x.v=0 then setWord l x.c.toNat x.w.toNat x.v else l:=by
 rw[storeE_ok h];unfold drain1;cases hereIn l x.c x.g <;> simp
theorem setWord_keep{l:List Cell}{c j:Nat}{v:Int}{i:Nat}{y:Cell}(h:(setWord l c j v)[i]?=some y):∃y0,l[i]?=some y0∧y.times=y0.times∧y.words.length=y0.words.length∧y.here=y0.here:=by
 unfold setWord at h;rw[List.getElem?_modify]at h
 cases hl:l[i]? with
 |none=>rw[hl]at h;simp at h
 |some y0=>
  rw[hl]at h
  by_cases e:c=i
  ·obtain rfl:=Option.some.inj h;exact ⟨y0,rfl,by simp[e],by simp[e],by simp[e]⟩
  ·obtain rfl:=Option.some.inj h;exact ⟨y0,rfl,by simp[e],by simp[e],by simp[e]⟩
structure CellsOk(l:List Cell):Prop where
 len:l.length≤64
 times:timesOk l
 words:wordsOk l
theorem CellsOk.setWord{l:List Cell}(h:CellsOk l)(c j:Nat)(v:Int):CellsOk (Qs.setWord l c j v):=
 ⟨by unfold Qs.setWord;rw[List.length_modify];exact h.len,fun i y hy=>by obtain ⟨y0,h0,e,_⟩:=setWord_keep hy;rw[e];exact h.times i y0 h0,fun i y hy=>by obtain ⟨y0,h0,_,e,_⟩:=setWord_keep hy;rw[e];exact h.words i y0 h0⟩
theorem CellsOk.drain1{l:List Cell}(h:CellsOk l)(x:Wt):CellsOk (Qs.drain1 l x).1:=by
 unfold Qs.drain1
 split
 ·exact h.setWord _ _ _
 ·exact h
theorem CellsOk.drainAll:∀(q:List Wt) {l:List Cell},CellsOk l→CellsOk (Qs.drainAll l q).1
 |[],_,h=>h
 |x :: q,l,h=>CellsOk.drainAll q (h.drain1 x)
def badN(l:List Cell)(q:List Wt):Int:=if (drainAll l q).2=0 then 0 else 7
theorem badN_snoc(l:List Cell)(pre:List Wt)(x:Wt):badN l (pre++[x])=if hereIn (drainAll l pre).1 x.c x.g then badN l pre else 7:=by
 unfold badN;rw[drainAll_snoc]
 have:(drain1 (drainAll l pre).1 x).2 = !hereIn (drainAll l pre).1 x.c x.g:=by
  unfold drain1;cases hereIn (drainAll l pre).1 x.c x.g <;> rfl
 rw[this];cases hereIn (drainAll l pre).1 x.c x.g <;> simp
variable {w:World}{B:PB}{l:List Cell}{ws:List (List Wt)}{vs:List Value}{a:Nat→Addr}
def PFenced(w:World)(a:Nat→Addr)(B:PB)(l:List Cell)(ws:List (List Wt))(vs:List Value)(t:Nat)(q:List Wt)(k:Nat)(v:Value)(wr:World):Prop:=
 ∃pre r vs',q=pre++r∧r.length=k∧v=errOf' a (badN l pre)∧PUp w B vs wr (drainAll l pre).1 (ws.set t r) vs'
theorem pfence_any{b0:World}(h:PMV w B l ws vs)(E:PLow b0 w a B vs)(C:CellsOk l){t:Nat}{q:List Wt}(hq:ws[t]?=some q)(hn6:ws.length≤6)(hq8:q.length≤8)(hw:okW q) :
  Calls Tryz.prog 134 #[.pointer (some ⟨B.bM,0,none⟩),.int .i64 t] w fun e w'=>e=.returned (errOf' a (badN l q))∧∃vs',PUp w B vs w' (drainAll l q).1 (ws.set t []) vs':=by
 have htl:=(List.getElem?_eq_some_iff.1 hq).1
 have hback:ws.set t q=ws:=by
  obtain ⟨h1,h2⟩:=List.getElem?_eq_some_iff.1 hq;subst h2;exact List.set_getElem_self h1
 have H:=Lib.hid h;have HE:=Lib.hid E;have HC:=Lib.hid C;have Hq:=Lib.hid hq;have Hw:=Lib.hid hw;have Hback:=Lib.hid hback;clear h E C hq hw hback
 go_enter Tryz.func134,Tryz.ntmps134
 go_wp2_with fail
 refine (pthread_ok H.out t htl).mono ?_;rintro e w' ⟨rfl,rfl⟩;go_wp2
 go_loopg [6,7] q.length (fun k v _ wr=>PFenced w a B l ws vs t q k v wr)
 case atStart=>
  refine ⟨[],q,vs,rfl,rfl,rfl,?_⟩;rw[Hback.out];exact PUp.quiet H.out (Mod.refl _ _)
 case round=>
  rename_i wr
  obtain ⟨pre,r,vs',hqr,hrk,rfl,hU⟩:=hrel
  have hwq:(ws.set t r)[t]?=some r:=by simp[htl]
  obtain ⟨kw,hm⟩:=hU.rep.slice;have hb:=hU.rep.lt (x:=B.bM) (.inl rfl);have hb2:=hU.rep.lt (x:=B.bW) (.inr (.inr (.inr (.inl rfl))));obtain ⟨v,ra,c,_,_,k1,k2,k3,_⟩:=hU.rep.rowAt hwq;rw[List.length_set]at hm
  have htn:(t:Int)<(ws.length:Int):=by omega
  have hrl:r.length≤8:=by rw[hqr]at hq8;simp at hq8;omega
  have L1:=HE.out.up hU;have HU:=Lib.hid hU;have HL:=Lib.hid L1;have Hqr:=Lib.hid hqr;have Hwq:=Lib.hid hwq;have Hrk:=Lib.hid hrk;clear hU L1 hqr hwq hrk
  cases r with
  |nil=>
   simp only[List.length_nil]at k3;go_wp2;go_ret
   have hp:q=pre:=by have:=Hqr.out;simpa using this
   rw[hp];exact ⟨rfl,_,HU.out⟩
  |cons x r=>
   have hx:=Hw.out x (by rw[Hqr.out];simp);have hcall:=pdrain_some HU.out.rep HL.out (HC.out.drainAll pre).len (HC.out.drainAll pre).times (HC.out.drainAll pre).words Hwq.out (by rw[List.length_set];exact hn6) (by simp at hrl;omega);unfold pdrainE at hcall;rw[←drain1_store hx,storeE_ok hx]at hcall
   simp only[List.length_cons]at k3
   have d1:decide ((0:Int)<((r.length+1:Nat):Int))=true:=by rw[decide_eq_true_eq];omega
   have d2:decide ((0:Int)<(r.length:Int)+1)=true:=by rw[decide_eq_true_eq];omega
   have hbn:=badN_snoc l pre x;have hda:=drainAll_snoc l pre x;have Hda:=Lib.hid (show (drainAll l (pre++[x])).1=(drain1 (drainAll l pre).1 x).1 by rw[hda]);clear hda
   cases hin:hereIn (drainAll l pre).1 x.c x.g with
   |true=>
    rw[hin,if_pos rfl]at hcall hbn;simp only[errOf',if_true]at hcall;have Hcall:=Lib.hid hcall;have Hbn:=Lib.hid hbn;clear hcall hbn hin
    go_wp2_with fail
    refine Hcall.out.mono ?_;rintro e w5 ⟨rfl,vs5,hU5⟩;have Hu5:=Lib.hid (HU.out.trans hU5);clear hU5 Hcall;go_wp2
    go_roundg r.length
    case measure=>have:=Hrk.out;simp at this;omega
    case rel=>
     refine ⟨pre++[x],r,vs5,by rw[Hqr.out];simp,rfl,by rw[Hbn.out],?_⟩;have:=Hu5.out;rw[Hda.out]
     simpa only[List.set_set]using this
   |false=>
    rw[hin]at hcall hbn;simp only[errOf',errV,if_false,Bool.false_eq_true,show ((7:Int)=0)=False by decide,show (7:Int).toNat - 1=6 from rfl]at hcall hbn;have Hcall:=Lib.hid hcall;have Hbn:=Lib.hid hbn;clear hcall hbn hin
    go_wp2_with fail
    refine Hcall.out.mono ?_;rintro e w5 ⟨rfl,vs5,hU5⟩;have Hu5:=Lib.hid (HU.out.trans hU5);clear hU5 Hcall;go_wp2
    go_roundg r.length
    case measure=>have:=Hrk.out;simp at this;omega
    case rel=>
     refine ⟨pre++[x],r,vs5,by rw[Hqr.out];simp,rfl,by rw[Hbn.out];rfl,?_⟩;have:=Hu5.out;rw[Hda.out]
     simpa only[List.set_set]using this
end
section
open Go.RowKit Qs Qh
def startM(n:Nat)(init regs:List (List Int))(codes:List (List Instr)):M:=
 ⟨(List.range n).map (cellC init init.length),List.replicate codes.length [],codes.mapIdx fun i c=>⟨c,pad 8 (regs.getD i []),0⟩,[],0⟩
end
section
open Go.RowKit Qs Qh
def preC(n:Nat)(init:List (List Int))(k:Nat):List Cell:=(List.range n).map (cellC init k)
def initC(n:Nat)(init:List (List Int))(k:Nat)(l:List Int):List Cell:=(preC n init k).set k ⟨pad 4 l,1,true⟩
variable {n k j:Nat}{init:List (List Int)}{l:List Int}{v:Int}
theorem preC_zero:preC n init 0=List.replicate n freshCell:=by
 have h:=congrArg M.cells (preM_zero n 0 init);exact h
theorem preC_len:(preC n init k).length=n:=by simp[preC]
theorem initC_len:(initC n init k l).length=n:=by simp[initC,preC]
theorem preC_alloc(h:k<n):allocAt (preC n init k) 0=some (k,0):=preM_alloc (t:=0) h
theorem preC_get(h:k<n):(preC n init k)[k]?=some ⟨[0,0,0,0],0,false⟩:=by
 have:=preM_get (t:=0) (init:=init) (i:=k) h;rw[show cellC init k k=⟨[0,0,0,0],0,false⟩from by simp[cellC]]at this;exact this
theorem initC_get(h:k<n):(initC n init k l)[k]?=some ⟨pad 4 l,1,true⟩:=by
 unfold initC;rw[List.getElem?_set,if_pos rfl,if_pos (by rw[preC_len];exact h)]
theorem initC_here(h:k<n):hereIn (initC n init k l) k 0=true:=by
 unfold hereIn cellAt;rw[if_neg (by omega),Int.toNat_natCast,initC_get h];rfl
theorem pad_take(h4:l.length≤4)(hj:l[j]?=some v):(pad 4 (l.take j)).set j v=pad 4 (l.take (j+1)):=by
 match l,h4,j,hj with
 |[],_,_,hj=>simp at hj
 |[a],_,0,hj=>cases hj;rfl
 |[a],_,j+1,hj=>simp at hj
 |[a,b],_,0,hj=>cases hj;rfl
 |[a,b],_,1,hj=>cases hj;rfl
 |[a,b],_,j+2,hj=>simp at hj
 |[a,b,c],_,0,hj=>cases hj;rfl
 |[a,b,c],_,1,hj=>cases hj;rfl
 |[a,b,c],_,2,hj=>cases hj;rfl
 |[a,b,c],_,j+3,hj=>simp at hj
 |[a,b,c,d],_,0,hj=>cases hj;rfl
 |[a,b,c,d],_,1,hj=>cases hj;rfl
 |[a,b,c,d],_,2,hj=>cases hj;rfl
 |[a,b,c,d],_,3,hj=>cases hj;rfl
 |[a,b,c,d],_,j+4,hj=>simp at hj
 |a :: b :: c :: d :: e :: r,h4,_,_=>simp at h4
theorem initC_store(h:k<n)(h4:l.length≤4)(hj:l[j]?=some v)(hv:isWord v=true) :
  storeE (initC n init k (l.take j)) k 0 j v=0∧Qs.setWord (initC n init k (l.take j)) k j v=initC n init k (l.take (j+1)):=by
 have hl:j<l.length:=(List.getElem?_eq_some_iff.1 hj).1;constructor
 ·unfold storeE;rw[if_pos (initC_here h),if_pos (by omega),if_pos hv]
 ·unfold Qs.setWord;rw[modify_get _ (initC_get h),pad_take h4 hj];unfold initC;rw[List.set_set]
theorem initC_done(h:k<n)(hl:init[k]?=some l):initC n init k l=preC n init (k+1):=by
 have e:((preC n init k).set k (zeroCell 1)).set k ⟨pad 4 l,1,true⟩=preC n init (k+1):=congrArg M.cells (preM_succ (t:=0) h hl);rw[←e,List.set_set];rfl
theorem cells_ok_set{cs:List Cell}(hc:timesOk cs∧wordsOk cs){c:Cell}(h1:0≤c.times∧c.times≤1000000000)(h2:c.words.length=4)(i:Nat):timesOk (cs.set i c)∧wordsOk (cs.set i c):=by
 have hT:∀(u:Nat) x,(cs.set i c)[u]?=some x→x=c∨cs[u]?=some x:=fun u x hx=>by
  rw[List.getElem?_set]at hx
  split at hx
  ·split at hx
   ·cases hx;exact .inl rfl
   ·cases hx
  ·exact .inr hx
 constructor
 ·intro u x hx
  rcases hT u x hx with rfl|e
  ·exact h1
  ·exact hc.1 u x e
 ·intro u x hx
  rcases hT u x hx with rfl|e
  ·exact h2
  ·exact hc.2 u x e
theorem preC_ok(hi:RowsFine 4 init):timesOk (preC n init k)∧wordsOk (preC n init k):=by
 have h:∀(u:Nat) x,(preC n init k)[u]?=some x→(0≤x.times∧x.times≤1)∧x.words.length=4:=fun u x hx=>by
  unfold preC at hx;rw[List.getElem?_map]at hx;obtain ⟨y,hy,rfl⟩:=Option.map_eq_some_iff.1 hx;unfold cellC
  split
  ·exact ⟨⟨Int.zero_le_ofNat 1,Int.le_refl 1⟩,pad_len (hi.getD y).1⟩
  ·exact ⟨⟨by decide,by decide⟩,rfl⟩
 exact ⟨fun u x hx=>⟨(h u x hx).1.1,Int.le_trans (h u x hx).1.2 (by decide)⟩,fun u x hx=>(h u x hx).2⟩
theorem initC_ok(hi:RowsFine 4 init)(h4:l.length≤4):timesOk (initC n init k l)∧wordsOk (initC n init k l):=
 cells_ok_set (preC_ok hi) ⟨(by decide:(0:Int)≤1),(by decide:(1:Int)≤1000000000)⟩ (pad_len h4) k
end
section
open Go.RowKit Go.Shelf Qs Qh
attribute [local go_sem] Oper.semAt_some
theorem back_in(F:Fence)(n:Nat)(h5:F.fn 121)(hro:F.round=none)(a:Option Addr)(len cap:Nat)(w:World) :
  CallsIn F n Tryz.prog 121 #[.slice a len cap] w fun e w'=>e=.returned (.func (.func 132) #[] #[.pointer (some ⟨w.heap.size,0,none⟩)])∧w'=w.alloc (.cells #[.slice a len cap] 180):=by
 refine callsIn_of_wp Tryz.func121 rfl h5 ?_ hro
 simp only[Tryz.ntmps121,List.size_toArray,List.length_cons,List.length_nil,Nat.reduceAdd,Nat.reduceSub,Array.replicate_succ,Array.replicate_zero,List.push_toArray,List.append_toArray,List.nil_append,List.cons_append]
 gi_wp2
 go_ret;exact ⟨rfl,rfl⟩
def upto{α : Type}(f:Nat→α)(k:Nat):List α:=(List.range k).map f
theorem upto_succ{α : Type}(f:Nat→α)(k:Nat):upto f (k+1)=upto f k++[f k]:=by simp[upto,List.range_succ]
theorem upto_length{α : Type}(f:Nat→α)(k:Nat):(upto f k).length=k:=by simp[upto]
def wt0:Wt:=⟨0,0,0,0⟩
def backF(q:List Wt)(k:Nat):Nat × Wt:=(q.length - 1 - k,(q[q.length - 1 - k]?).getD wt0)
def backE(x:Nat × Wt):Array Value:=#[.int .i64 (x.1:Int),.agg #[.int .i64 x.2.c,.int .i64 x.2.g,.int .i64 x.2.w,.int .i64 x.2.v]]
theorem back1_in(F:Fence)(n:Nat)(h7:F.fn 132)(hro:F.round=none)(hn:1≤n)(l Bs n₀ g s cap:Nat)(q:List Wt)(hq8:q.length≤8)(hb:g<n₀)(hBn:Bs<n₀)(J Jx:List (Nat × Wt)→World→Prop)
  (hY:∀pre x W,J pre W→pre.length<q.length→YieldAt F (n - 1) Tryz.prog l (backE x) W fun e W'=>
   (e=.returned (.bool true)∧J (pre++[x]) W'∧Below n₀ W W')∨(e=.returned (.bool false)∧Jx (pre++[x]) W'))
  (W:World) (hBs:W.cell? ⟨Bs,0,none⟩=some (.slice (some ⟨g,s,none⟩) q.length cap)) (hgW:g<W.heap.size) (hc:∀j u,(flat wtVals 0 q)[j]?=some u→W.cell? ⟨g,s+j,none⟩=some u) (h0:J [] W) :
  CallsIn F n Tryz.prog 132 #[.func (.yield l) #[] #[],.pointer (some ⟨Bs,0,none⟩)] W fun e W'=>(∃v,e=.returned v)∧
   ((∃ys,ys=upto (backF q) q.length∧J ys W')∨(∃pre,(∃k,k≤q.length∧pre=upto (backF q) k)∧Jx pre W')):=by
 have hBW:=World.block_lt_of_cell? _ _ hBs;refine callsIn_of_wp Tryz.func132 rfl h7 ?_ hro
 simp only[Tryz.ntmps132,List.size_toArray,List.length_cons,List.length_nil,Nat.reduceAdd,Nat.reduceSub,Array.replicate_succ,Array.replicate_zero,List.push_toArray,List.append_toArray,List.nil_append,List.cons_append]
 gi_wp2
 gi_loopw [3] (fun i wr=>∃k j:Nat,k+j=q.length∧i=.int .i64 ((j:Int) - 1)∧J (upto (backF q) k) wr∧Below n₀ W wr) (fun i _=>(intOf i+1).toNat)
 case atStart=>exact ⟨0,q.length,by omega,rfl,h0,Below.refl _ _⟩
 case round=>
  rename_i wr
  obtain ⟨k,j,hkj,rfl,hJs,hnx⟩:=hrel
  cases j with
  |zero=>
   have hd:decide ((0:Int)≤((0:Nat):Int) - 1)=false:=by simp
   obtain rfl:k=q.length:=by omega
   gi_wp2
   go_end0
   exact ⟨⟨_,rfl⟩,.inl ⟨_,rfl,hJs⟩⟩
  |succ j=>
   have hjq:j<q.length:=by omega
   obtain ⟨x,hx⟩:∃x,q[j]?=some x:=⟨_,List.getElem?_eq_getElem hjq⟩
   have hbk:backF q k=(j,x):=by
    unfold backF;rw[show q.length - 1 - k=j by omega,hx];rfl
   have hcell:∀i u,(wtVals 0 x)[i]?=some u→wr.cell? ⟨g,s+(j*4+i),none⟩=some u:=by
    intro i u hu;have hi:i<4:=(List.getElem?_eq_some_iff.1 hu).1;have:=flat_get wtVals 4 (fun _ _=>rfl) hi q 0 j x hx [];rw[List.append_nil]at this;exact (hnx.cell (p:=⟨g,s+(j*4+i),none⟩) hb).trans (hc _ _ (this.trans hu))
   have c0:wr.cell? ⟨g,s+j*4,none⟩=some (.int .i64 x.c):=hcell 0 _ rfl;have c1:wr.cell? ⟨g,s+j*4+1,none⟩=some (.int .i64 x.g):=hcell 1 _ rfl;have c2:wr.cell? ⟨g,s+j*4+2,none⟩=some (.int .i64 x.w):=hcell 2 _ rfl;have c3:wr.cell? ⟨g,s+j*4+3,none⟩=some (.int .i64 x.v):=hcell 3 _ rfl
   have hbs:=(hnx.cell (p:=⟨Bs,0,none⟩) hBn).trans hBs;have hgw:g<wr.heap.size:=Nat.lt_of_lt_of_le hgW hnx.size
   have hd:decide ((0:Int)≤((j+1:Nat):Int) - 1)=true:=by rw[decide_eq_true_eq];omega
   have hjn:((j+1:Nat):Int) - 1=(j:Int):=by omega
   have hji:(j:Int)<(q.length:Int):=by omega
   rw[hjn]at hd;rw[hjn];obtain ⟨fn,tmps,assign,body,hy,hR⟩:=hY _ (j,x) wr hJs (by rw[upto_length];omega);unfold backE at hy;dsimp only at hy
   gi_wp2
   refine hR.mono ?_;rintro e W3 (⟨rfl,hJ3,hk3⟩|⟨rfl,hJx3⟩)
   ·gi_wp2
    go_roundw
    case rel=>exact ⟨k+1,j,by omega,by simp,by rw[upto_succ,hbk];exact hJ3,hnx.trans hk3⟩
    case measure=>simp[intOf]
   ·gi_wp2
    refine bodyPost_ret (results_none rfl _ _ _) rfl ?_;exact ⟨⟨_,rfl⟩,.inr ⟨_,⟨k+1,by omega,by rw[upto_succ,hbk]⟩,hJx3⟩⟩
end
section
open Go.RowKit Go.Shelf Qs Qh
attribute [local go_sem] Oper.semAt_some
theorem back1_nil(F:Fence)(n:Nat)(h7:F.fn 132)(hro:F.round=none)(l Bs:Nat)(J:List (Nat × Wt)→World→Prop)(W:World)(hBs:W.cell? ⟨Bs,0,none⟩=some (.slice none 0 0))(h0:J [] W) :
  CallsIn F n Tryz.prog 132 #[.func (.yield l) #[] #[],.pointer (some ⟨Bs,0,none⟩)] W fun e W'=>(∃v,e=.returned v)∧J [] W':=by
 have hBW:=World.block_lt_of_cell? _ _ hBs;refine callsIn_of_wp Tryz.func132 rfl h7 ?_ hro
 simp only[Tryz.ntmps132,List.size_toArray,List.length_cons,List.length_nil,Nat.reduceAdd,Nat.reduceSub,Array.replicate_succ,Array.replicate_zero,List.push_toArray,List.append_toArray,List.nil_append,List.cons_append]
 gi_wp2
 gi_loopw [3] (fun i wr=>i=.int .i64 (-1)∧J [] wr) (fun _ _=>0)
 case atStart=>exact ⟨rfl,h0⟩
 case round=>
  obtain ⟨rfl,hJs⟩:=hrel
  gi_wp2
  go_end0
  exact ⟨⟨_,rfl⟩,hJs⟩
theorem below_row{w W:World}{v:Value}{q:List Wt}(h:waitRow w v q)(hW:Below w.heap.size w W):waitRow W v q:=h.keep (Mod.below hW) fun _ _ e=>e
theorem back_stops(F:Fence)(n:Nat)(h7:F.fn 132)(hro:F.round=none)(hn:1≤n)(Bs:Nat)(sv:Value)(q:List Wt)(hq8:q.length≤8)(w:World)(hBs:Bs<w.heap.size)
  (hc:w.cell? ⟨Bs,0,none⟩=some sv) (hI:waitRow w sv q) :
  SeqStopsK F n Tryz.prog 132 #[.pointer (some ⟨Bs,0,none⟩)] backE (Below w.heap.size) (fun ys=>ys=upto (backF q) q.length) (fun pre=>∃k,k≤q.length∧pre=upto (backF q) k) q.length w:=fun l J Jx W hW _ _ hY h0=>by
 have hc':=(hW.cell (p:=⟨Bs,0,none⟩) hBs).trans hc;have hlt:=hI.lt
 rcases (below_row hI hW).2 with ⟨rfl,h00⟩|⟨g,s,cap,cur,rfl,hg,r1,r2,r3,r4⟩
 ·obtain rfl:q=[]:=List.eq_nil_of_length_eq_zero h00;exact (back1_nil F n h7 hro l Bs J W hc' h0).mono fun e W' ⟨he,hj⟩=>⟨he,.inl ⟨_,rfl,hj⟩⟩
 ·have hgl:=hlt g rfl;refine back1_in F n h7 hro hn l Bs w.heap.size g s cap q hq8 hgl hBs J Jx hY W hc' (lt_of_block hg) (fun j u hu=>?_) h0;rw[cell_of_heap hg];rw[←r4,List.getElem?_take]at hu
  split at hu
  ·rw[List.getElem?_drop]at hu;simpa using hu
  ·cases hu
end
section
open Go.RowKit Qs Qh
def hit(c r W:Int)(y:Wt):Prop:=y.c=c∧y.g=r∧y.w=W
theorem look_none{c r W:Int}:∀(q:List Wt) (v:Int),(∀y∈q,¬hit c r W y)→Qs.look q c r W v=v
 |[],v,_=>rfl
 |y :: q,v,h=>by
  have hy:¬(y.c=c∧y.g=r∧y.w=W):=h y (by simp);unfold Qs.look;simp only[List.foldl_cons];rw[if_neg hy];exact look_none q v fun z hz=>h z (by simp[hz])
theorem look_at{c r W:Int}{q:List Wt}{j:Nat}{y:Wt}(v:Int)(hj:q[j]?=some y)(hy:hit c r W y)(hn:∀i z,j<i→q[i]?=some z→¬hit c r W z):Qs.look q c r W v=y.v:=by
 obtain ⟨hl,rfl⟩:=List.getElem?_eq_some_iff.1 hj
 have e:q=q.take j++(q[j] :: q.drop (j+1)):=by rw[←List.drop_eq_getElem_cons hl,List.take_append_drop]
 have hy':q[j].c=c∧q[j].g=r∧q[j].w=W:=hy
 have:∀l1 l2:List Wt,∀x:Wt,(x.c=c∧x.g=r∧x.w=W)→Qs.look (l1++(x :: l2)) c r W v=Qs.look l2 c r W x.v:=by
  intro l1 l2 x hx;unfold Qs.look;rw[List.foldl_append,List.foldl_cons,if_pos hx]
 conv=>lhs;rw[e]
 rw[this _ _ _ hy'];refine look_none _ _ fun z hz=>?_;obtain ⟨i,hi⟩:=List.mem_iff_getElem?.1 hz;rw[List.getElem?_drop]at hi;exact hn (j+1+i) z (by omega) hi
theorem upto_mem{α : Type}{f:Nat→α}{k i:Nat}(h:i<k):f i∈upto f k:=by
 unfold upto;exact List.mem_map.2 ⟨i,by simpa using h,rfl⟩
theorem back_get{q:List Wt}{i:Nat}{z:Wt}(h:q[i]?=some z):i<q.length∧backF q (q.length - 1 - i)=(i,z):=by
 have hl:=(List.getElem?_eq_some_iff.1 h).1;refine ⟨hl,?_⟩;unfold backF;rw[show q.length - 1 - (q.length - 1 - i)=i by omega,h];rfl
theorem look_all{c r W:Int}{q:List Wt}(v:Int)(h:∀y∈upto (backF q) q.length,¬hit c r W y.2):Qs.look q c r W v=v:=by
 refine look_none q v fun y hy=>?_;obtain ⟨i,hi⟩:=List.mem_iff_getElem?.1 hy;obtain ⟨hl,hb⟩:=back_get hi;have:=h _ (upto_mem (f:=backF q) (k:=q.length) (i:=q.length - 1 - i) (by omega))
 rwa [hb]at this
theorem look_found{c r W:Int}{q:List Wt}{k:Nat}{pre:List (Nat × Wt)}{y:Nat × Wt}(v:Int)(hk:k≤q.length)(e:pre++[y]=upto (backF q) k)(hy:hit c r W y.2)(hn:∀z∈pre,¬hit c r W z.2):Qs.look q c r W v=y.2.v:=by
 cases k with
 |zero=>have:=congrArg List.length e;simp[upto_length]at this
 |succ k=>
  rw[upto_succ]at e;obtain ⟨rfl,e2⟩:=List.append_inj' e rfl
  obtain rfl:y=backF q k:=by simpa using e2
  have hj:q[q.length - 1 - k]?=some (backF q k).2:=by
   unfold backF;rw[List.getElem?_eq_getElem (show q.length - 1 - k<q.length by omega)];rfl
  refine look_at v hj hy fun i z hi hz=>?_;obtain ⟨hl,hb⟩:=back_get hz;have:=hn _ (upto_mem (f:=backF q) (k:=k) (i:=q.length - 1 - i) (by omega))
  rwa [hb]at this
end
section
open Go.RowKit Qs Qh
variable {w:World}{B:PB}{l:List Cell}{ws:List (List Wt)}{vs:List Value}{a:Nat→Addr}
theorem wrongW(v:Int)(w:World):Calls Tryz.prog 133 #[.int .i64 v] w fun e w'=>e=.returned (.bool (!isWord v))∧w=w':=by
 go_enter Tryz.func133,Tryz.ntmps133
 go_wp2_with fail
 refine (right_any v w).mono ?_;rintro e w' ⟨rfl,rfl⟩;go_wp2;go_ret;exact ⟨rfl,rfl⟩
def intsRow(w:World)(v:Value)(l:List Int):Prop:=∃a c,v=.slice a l.length c∧∀(i:Nat) n,l[i]?=some n→∃b off,a=some ⟨b,off,none⟩∧b<w.heap.size∧w.cell? ⟨b,off+i,none⟩=some (.int .i64 n)
def firstBad:List Int→Nat→Int
 |[],_=>-1
 |n :: r,i=>if isWord n then firstBad r (i+1)else (i:Int)
theorem firstBad_at{l:List Int}{k:Nat}{n:Int}:∀ {s:Nat},l[k]?=some n→(∀(j:Nat) m,j<k→l[j]?=some m→isWord m=true)→isWord n=false→firstBad l s=((s+k:Nat):Int):=by
 induction l generalizing k with
 |nil=>intro s h;simp at h
 |cons x r ih=>
  intro s h hj hn
  cases k with
  |zero=>simp at h;subst h;simp[firstBad,hn]
  |succ k=>
   have hx:=hj 0 x (by omega) rfl;simp only[firstBad,hx,if_true];rw[ih (s:=s+1) (by simpa using h) (fun j m hjk hm=>hj (j+1) m (by omega) (by simpa using hm)) hn]
   congr 1;omega
theorem firstBad_none{l:List Int}:∀ {s:Nat},(∀(j:Nat) m,l[j]?=some m→isWord m=true)→firstBad l s = -1:=by
 induction l with
 |nil=>intro s _;rfl
 |cons x r ih=>
  intro s h;have hx:=h 0 x rfl;simp only[firstBad,hx,if_true];exact ih fun j m hm=>h (j+1) m (by simpa using hm)
theorem indexBad(w:World)(v:Value)(l:List Int)(R:intsRow w v l)(hl:l.length≤8) :
  Calls Tryz.prog 113 #[v,.func (.func 133) #[] #[]] w fun e w'=>e=.returned (.int .i64 (firstBad l 0))∧w=w':=by
 obtain ⟨ad,c,rfl,hx⟩:=R;have Hx:=Lib.hid hx;clear hx
 go_enter Tryz.func113,Tryz.ntmps113
 go_wp2
 go_loop [5,8] (fun _ i=>∃k:Nat,k≤l.length∧i=.int .i64 k∧∀(j:Nat) m,j<k→l[j]?=some m→isWord m=true) (fun _ i=>l.length - (intOf i).toNat)
 case atStart=>exact ⟨0,Nat.zero_le _,rfl,fun j m hj=>absurd hj (by omega)⟩
 case round=>
  obtain ⟨k,hk,rfl,hall⟩:=hrel;have Hall:=Lib.hid hall;clear hall
  by_cases hlt:k<l.length
  ·have hd:decide ((k:Int)<(l.length:Int))=true:=by rw[decide_eq_true_eq];omega
   have hki:(k:Int)<(l.length:Int):=by omega
   obtain ⟨n,hn⟩:∃n,l[k]?=some n:=⟨_,List.getElem?_eq_getElem hlt⟩;obtain ⟨b,off,rfl,hb,hc⟩:=Hx.out k n hn;have Hn:=Lib.hid hn;clear hn
   cases hv:isWord n with
   |true=>
    have Hv:=Lib.hid hv;clear hv
    go_wp2_with fail
    refine (wrongW n w).mono ?_;rintro e w' ⟨rfl,rfl⟩;rw[Hv.out];go_wp2
    go_round
    case rel=>
     refine ⟨k+1,by omega,by go_num,fun j m hj hm=>?_⟩
     by_cases e:j=k
     ·subst e;rw[Hn.out]at hm;cases hm;exact Hv.out
     ·exact Hall.out j m (by omega) hm
    case measure=>simp[intOf];omega
   |false=>
    have Hv:=Lib.hid hv;clear hv
    go_wp2_with fail
    refine (wrongW n w).mono ?_;rintro e w' ⟨rfl,rfl⟩;rw[Hv.out];go_wp2;go_ret;refine ⟨?_,rfl⟩;rw[firstBad_at Hn.out Hall.out Hv.out];simp
  ·have hd:decide ((k:Int)<(l.length:Int))=false:=by rw[decide_eq_false_iff_not];omega
   go_wp2;go_ret;refine ⟨?_,rfl⟩;rw[firstBad_none fun j m hm=>Hall.out j m (by have:=(List.getElem?_eq_some_iff.1 hm).1;omega) hm];rfl
theorem firstBad_neg(l:List Int)(s:Nat):decide (0≤firstBad l s) = !l.all isWord:=by
 induction l generalizing s with
 |nil=>rfl
 |cons x r ih=>
  simp only[firstBad,List.all_cons]
  by_cases h:isWord x=true
  ·simp only[h,if_true,ih,Bool.true_and]
  ·have h':isWord x=false:=by simpa using h
   simp[h']
theorem containsBad(w:World)(v:Value)(l:List Int)(R:intsRow w v l)(hl:l.length≤8) :
  Calls Tryz.prog 76 #[v,.func (.func 133) #[] #[]] w fun e w'=>e=.returned (.bool (!l.all isWord))∧w=w':=by
 have hcall:=indexBad w v l R hl;have hfb:=firstBad_neg l 0;have Hcall:=Lib.hid hcall;generalize firstBad l 0=n at *;generalize (!l.all isWord)=bb at *;clear hcall R
 go_enter Tryz.func76,Tryz.ntmps76
 go_wp2_with fail
 refine Hcall.out.mono ?_;rintro e w' ⟨rfl,rfl⟩;go_wp2;go_ret;exact ⟨rfl,rfl⟩
end
section
open Go.RowKit Qs Qh
variable {w:World}{L:Lay}{m:M}{N:Int}
theorem reg_nat{n k:Int}(h:isReg n k):∃a:Nat,n=a∧(a:Int)<k:=by
 obtain ⟨h0,h1⟩:=h;obtain ⟨a,rfl⟩:=Int.eq_ofNat_of_zero_le h0;exact ⟨a,rfl,h1⟩
theorem names_nat{m:M}{n rc rg:Int}(h:m.names n=some (rc,rg)):∃k:Nat,rc=k∧k<m.cells.length:=by
 unfold M.names at h
 cases hr:refOf n with
 |none=>rw[hr]at h;cases h
 |some p=>
  obtain ⟨a,b⟩:=p;rw[hr]at h;simp only at h
  split at h
  ·rename_i hh
   cases h;obtain ⟨h0,h1,_⟩:=hereIn_ge hh;obtain ⟨k,rfl⟩:=Int.eq_ofNat_of_zero_le h0;exact ⟨k,rfl,by omega⟩
  ·cases h
theorem exec_mark_ok{m:M}{t a p:Nat}{B C:Int}{to:List UInt8}{h:Thr}(hh:m.T[t]?=some h)(h5:m.marks.length<500):(m.setPc t p).exec t ⟨18,a,B,C,to⟩ = {m.setPc t p with marks:=m.marks++[((t:Int),h.regs.getD a 0)]}:=by
 simp only[M.exec,thr_setPc hh,Thr.reg,Int.toNat_natCast];rw[if_pos (show (m.setPc t p).marks.length<500 from h5)];rfl
theorem exec_mark_full{m:M}{t a p:Nat}{B C:Int}{to:List UInt8}(h5:¬m.marks.length<500):(m.setPc t p).exec t ⟨18,a,B,C,to⟩=m.setPc t p:=by
 simp only[M.exec];rw[if_neg (show ¬(m.setPc t p).marks.length<500 from h5)]
end
end Go.Proofs.YtciaficoeajeaaaGreatDoor
section
namespace Qh
open Go Go.RowKit Qs
variable {L:Lay}{b0 g:Nat}{rb:Nat→Nat}{sp:Nat}{jk:List Value}{cv:Nat→Value}
end Qh
namespace Go.Proofs.YtciaficoeajeaaaGreatDoor
open Go.RowKit Qs Qh
theorem startM_T'{n:Nat}{init regs:List (List Int)}{codes:List (List Instr)}{i:Nat}{h:Thr}(hh:(startM n init regs codes).T[i]?=some h):∃c,codes[i]?=some c∧h=⟨c,pad 8 (regs.getD i []),0⟩:=by
 simp only[startM,List.getElem?_mapIdx]at hh;obtain ⟨c,hc,rfl⟩:=Option.map_eq_some_iff.1 hh;exact ⟨c,hc,rfl⟩
theorem startM_len(n:Nat)(init regs:List (List Int))(codes:List (List Instr)):(startM n init regs codes).T.length=codes.length:=by simp[startM]
end Go.Proofs.YtciaficoeajeaaaGreatDoor
end
