/- Texts that belong together, joined. -/
import Derived.Test.YtppihkneeolomaaGreatDoorCSSkinds2
import Derived.Test.YtppihkneeolomaaGreatDoorCSm3
import Derived.LaidLaws
import Derived.SliceStrings
import Derived.ChangeShapes
import Derived.Test.YtppihkneeolomaaGreatDoorCSm2
import Derived.Test.YtppihkneeolomaaGreatDoorCSm7
import Derived.Test.YtppihkneeolomaaGreatDoorCSm4
import Derived.Test.YtppihkneeolomaaGreatDoorCSm8
import Derived.Test.YtppihkneeolomaaGreatDoorCSm6
import Derived.Test.YtppihkneeolomaaGreatDoorCSm1
set_option linter.unusedVariables false
set_option linter.unusedSimpArgs false
set_option linter.unusedSectionVars false
set_option maxHeartbeats 64000000
set_option maxRecDepth 4000
namespace Go.Proofs.YtppihkneeolomaaGreatDoor
section
open Go.RowKit Qs Qh
variable {N:Nat}{w w':World}{v u:Value}{ll:List (List ROp)}{l:List ROp}{rf:List ROp→Option Int}
def allR(rf:List ROp→Option Int):Nat→List (List ROp)→Int × Int
 |_,[]=>(0,-1)
 |i,l :: r=>match rf l with
  |some c=>(c,i)
  |none=>allR rf (i+1) r
theorem allR_at:∀(ll:List (List ROp)) (i k:Nat) (l:List ROp) (c:Int),ll[k]?=some l→(∀(j:Nat) y,j<k→ll[j]?=some y→rf y=none)→rf l=some c→allR rf i ll=(c,((i+k:Nat):Int))
 |[],i,k,l,c,h,_,_=>by simp at h
 |y :: ll,i,0,l,c,h,_,h0=>by
  simp at h;subst h
  unfold allR;rw[h0];rfl
 |y :: ll,i,k+1,l,c,h,ha,h0=>by
  have hy:=ha 0 y (by omega) rfl
  have:=allR_at ll (i+1) k l c (by simpa using h) (fun j z hj hz=>ha (j+1) z (by omega) (by simpa using hz)) h0
  unfold allR;rw[hy]
  show allR rf (i+1) ll=_
  rw[this,show i+1+k=i+(k+1) by omega]
theorem allR_none:∀(ll:List (List ROp)) (i:Nat),(∀(j:Nat) y,ll[j]?=some y→rf y=none)→allR rf i ll=(0,-1)
 |[],i,_=>rfl
 |y :: ll,i,h=>by
  unfold allR;rw[h 0 y rfl]
  exact allR_none ll (i+1) fun j z hz=>h (j+1) z (by simpa using hz)
theorem allR_cases:∀(ll:List (List ROp)) (i:Nat),(allR rf i ll=(0,-1)∧∀l∈ll,rf l=none)∨∃(k:Nat) (l:List ROp) (c:Int),ll[k]?=some l∧rf l=some c∧allR rf i ll=(c,((i+k:Nat):Int))∧∀(j:Nat) y,j<k→ll[j]?=some y→rf y=none
 |[],i=>.inl ⟨rfl,fun _ h=>by cases h⟩
 |y :: ll,i=>by
  cases hy:rf y with
  |some c=>exact .inr ⟨0,y,c,rfl,hy,by unfold allR;rw[hy];rfl,fun j z hj=>by omega⟩
  |none=>
   rcases allR_cases ll (i+1)with ⟨h,h2⟩|⟨k,l,c,h1,h2,h3,h4⟩
   ·refine .inl ⟨by unfold allR;rw[hy];exact h,fun l hl=>?_⟩
    rcases List.mem_cons.1 hl with rfl|hl
    ·exact hy
    ·exact h2 l hl
   ·refine .inr ⟨k+1,l,c,by simpa using h1,h2,?_,fun j z hj hz=>?_⟩
    ·unfold allR;rw[hy]
     show allR rf (i+1) ll=_
     rw[h3,show i+1+k=i+(k+1) by omega]
    ·cases j with
     |zero=>simp at hz;subst hz;exact hy
     |succ j=>exact h4 j z (by omega) (by simpa using hz)
def memK(ks:List ByteArray)(s:ByteArray):Bool:=ks.any fun k=>decide (k=s)
theorem memK_iff{ks:List ByteArray}{s:ByteArray}:memK ks s=true↔s∈ks:=by
 unfold memK
 rw[List.any_eq_true]
 constructor
 ·rintro ⟨k,h,e⟩;rw[←of_decide_eq_true e];exact h
 ·exact fun h=>⟨s,h,by simp⟩
variable {W:ByteArray}{ks:List ByteArray}
end
section
open Go.RowKit Qs Qh
variable {N:Nat}{w w':World}{v u:Value}{ll:List (List ROp)}{l:List ROp}{W:ByteArray}{ks:List ByteArray}
def IdxPost(ks:List ByteArray)(s:ByteArray)(w:World)(e:Ending)(w':World):Prop:=∃n:Int,e=.returned (.int .i64 n)∧w'=w∧(s∈ks→0≤n)∧(¬s∈ks→n = -1)
def IdlPost(ll:List (List ROp))(w:World)(e:Ending)(w':World):Prop:=∃n:Int,e=.returned (.int .i64 n)∧w'=w∧((∀l∈ll,l.length≤20)→n = -1)∧(¬(∀l∈ll,l.length≤20)→0≤n)
theorem manyB_iff:manyB ll=true↔1≤ll.length∧ll.length≤6∧∀l∈ll,l.length≤20:=by
 unfold manyB
 simp[and_assoc]
theorem manyB_false(h:manyB ll=false):ll.length<1∨6<ll.length∨¬∀l∈ll,l.length≤20:=by
 by_cases h1:ll.length<1
 ·exact .inl h1
 ·by_cases h2:6<ll.length
  ·exact .inr (.inl h2)
  ·refine .inr (.inr fun h3=>?_)
   have:=manyB_iff.2 ⟨by omega,by omega,h3⟩
   rw[this]at h;cases h
variable {a:Nat→Addr}
end
section
open Go.RowKit Qs Qh
def kindsC:List ByteArray:=[⟨#[101,110,116,101,114]⟩,⟨#[108,101,97,118,101]⟩,⟨#[114,101,115,116]⟩,⟨#[119,97,105,116]⟩,⟨#[114,101,97,100]⟩,⟨#[112,117,116]⟩,⟨#[100,114,111,112]⟩,⟨#[108,97,116,101,114]⟩,⟨#[102,108,117,115,104]⟩]
def kindsD:DataW Unit:=.slice (ChangeShapes.strs kindsC) []
def KindsW(w:World):Prop:=∃g off cap,w.cell? ⟨10,0,none⟩=some (.slice (some ⟨g,off,none⟩) 9 cap)∧∀(i:Nat) x,kindsC[i]?=some x→w.cell? ⟨g,off+i,none⟩=some (.string x)
theorem KindsW.keep{w w':World}(h:KindsW w)(hM:Mod noF w w'):KindsW w':=by
 obtain ⟨g,off,cap,h1,h2⟩:=h
 exact ⟨g,off,cap,hM.cell h1 (fun e=>e),fun i x hi=>hM.cell (h2 i x hi) (fun e=>e)⟩
theorem indexK2(w:World)(g off cap:Nat)(ks:List ByteArray)(s:ByteArray)(hg:∀(i:Nat) x,ks[i]?=some x→w.cell? ⟨g,off+i,none⟩=some (.string x))(hl:ks.length≤1000) :
  Calls Tryz.prog 93 #[.slice (some ⟨g,off,none⟩) ks.length cap,.string s] w (IdxPost ks s w):=by
 have Hg:=Lib.hid hg
 clear hg
 go_enter Tryz.func93,Tryz.ntmps93
 go_wp2
 go_loop [5,8] (fun j i=>∃k:Nat,k≤ks.length∧i=.int .i64 k∧¬s∈ks.take k) (fun _ i=>ks.length - (intOf i).toNat)
 case atStart=>exact ⟨0,Nat.zero_le _,rfl,by simp⟩
 case round=>
  obtain ⟨k,hk,rfl,hno⟩:=hrel
  have Hno:=Lib.hid hno
  clear hno
  by_cases hlt:k<ks.length
  ·have hd:decide ((k:Int)<(ks.length:Int))=true:=by simp;omega
   have hki:(k:Int)<(ks.length:Int):=by omega
   obtain ⟨y,hy⟩:∃y,ks[k]?=some y:=⟨_,List.getElem?_eq_getElem hlt⟩
   have hyc:=Hg.out k y hy
   have hmem:=List.mem_of_getElem? hy
   have htk:ks.take (k+1)=ks.take k++[y]:=by rw[List.take_add_one,hy];rfl
   have Htk:=Lib.hid htk
   have Hmem:=Lib.hid hmem
   clear hy htk hmem
   by_cases hxy:y=s
   ·subst hxy
    have ey:=str_eq y
    go_wp2
    go_ret
    exact ⟨_,rfl,rfl,fun _=>by omega,fun h=>absurd Hmem.out h⟩
   ·have ey:(s.toList==y.toList)=false:=str_ne fun e=>hxy e.symm
    have ey2:(y.toList==s.toList)=false:=str_ne hxy
    go_wp2
    go_round
    case rel=>exact ⟨k+1,by omega,by go_num,by rw[Htk.out];intro h;rcases List.mem_append.1 h with h|h;exact Hno.out h;exact hxy (List.mem_singleton.1 h).symm⟩
    case measure=>simp[intOf];omega
  ·have hd:decide ((k:Int)<(ks.length:Int))=false:=by simp;omega
   obtain rfl:k=ks.length:=by omega
   have hno:=Hno.out
   rw[List.take_length]at hno
   go_wp2
   go_ret
   exact ⟨-1,rfl,rfl,fun h=>absurd h hno,fun _=>rfl⟩
theorem containsK2(w:World)(g off cap:Nat)(ks:List ByteArray)(s:ByteArray)(hg:∀(i:Nat) x,ks[i]?=some x→w.cell? ⟨g,off+i,none⟩=some (.string x))(hl:ks.length≤1000) :
  Calls Tryz.prog 68 #[.slice (some ⟨g,off,none⟩) ks.length cap,.string s] w fun e w'=>e=.returned (.bool (memK ks s))∧w'=w:=by
 have Hcall:=Lib.hid (indexK2 w g off cap ks s hg hl)
 clear hg
 by_cases hs:s∈ks
 ·have ds:memK ks s=true:=memK_iff.2 hs
  rw[ds]
  go_enter Tryz.func68,Tryz.ntmps68
  go_wp2_with fail
  refine Hcall.out.mono ?_
  rintro e w' ⟨n,rfl,rfl,h1,h2⟩
  have d:decide ((0:Int)≤n)=true:=by simpa using h1 hs
  clear h1 h2 hs
  go_wp2
  go_ret
  exact ⟨rfl,rfl⟩
 ·have ds:memK ks s=false:=by cases h:memK ks s with
   |true=>exact absurd (memK_iff.1 h) hs
   |false=>rfl
  rw[ds]
  go_enter Tryz.func68,Tryz.ntmps68
  go_wp2_with fail
  refine Hcall.out.mono ?_
  rintro e w' ⟨n,rfl,rfl,h1,h2⟩
  obtain rfl:=h2 hs
  clear h1 h2 hs
  go_wp2
  go_ret
  exact ⟨rfl,rfl⟩
theorem strs_inj:∀ {a b:List ByteArray},(ChangeShapes.strs a:List (DataW Unit))=ChangeShapes.strs b→a=b:=by
 intro a b h
 have h1:=congrArg (List.map fun y:DataW Unit=>match y with|.lit (.string bs)=>(⟨bs.toArray⟩:ByteArray)|_=>ByteArray.empty) h
 unfold ChangeShapes.strs at h1
 rw[List.map_map,List.map_map]at h1
 have h2:∀l:List ByteArray,l.map ((fun y:DataW Unit=>match y with|.lit (.string bs)=>(⟨bs.toArray⟩:ByteArray)|_=>ByteArray.empty) ∘ fun s=>.lit (.string s.data.toList))=l:=fun l=>by
  conv=>rhs;rw[←List.map_id l]
  refine List.map_congr_left fun s _=>?_
  cases s;simp
 rw[h2,h2]at h1
 exact h1
theorem kinds_of_vars{W:World}{nm:String}(hn : Tryz.prog.globalNamed nm=some 10)(ht:(Tryz.prog.globals[10]?).map (·.type)=some 29){ps:List MemPlace}(h:DataW.LaidVars Tryz.prog W [(nm,kindsD)] ps):KindsW W:=by
 obtain ⟨g0,t0,cs0,f0,p0,q0,hg0,ht0,hv0,hd0,hr,e0⟩:=h
 obtain rfl:=Option.some.inj (hn.symm.trans hg0)
 obtain rfl:=Option.some.inj (ht.symm.trans ht0)
 obtain ⟨l0⟩:=cs0
 rcases ChangeShapes.open_strings Tryz.underlying29 Tryz.underlying9 (by kernel_rfl) hd0 with ⟨_,h2⟩|⟨a,len,cap,ss,hcs,_,hl,hm,hlen,hx,hcell,_⟩
 ·simp[kindsD]at h2
 ·simp only at hcs
  subst hcs
  simp only[if_true]at hlen
  have hx1:=congrArg Prod.fst hx
  simp only[kindsD]at hx1
  have hx2:(ChangeShapes.strs kindsC:List (DataW Unit))=ChangeShapes.strs (ss.take len):=by injection hx1
  have hk:=strs_inj hx2
  have hl9:len=9:=by
   have:=congrArg List.length hk
   rw[List.length_take,hlen]at this
   have h9:kindsC.length=9:=rfl
   omega
  subst hl9
  have hc0:=hcell 0 (by omega)
  have hsp:a.spot=none:=by
   have:=World.cell?_spot hc0
   unfold Addr.add at this
   split at this
   ·assumption
   ·simp_all
  obtain ⟨g,off,sp⟩:=a
  simp only at hsp
  subst hsp
  refine ⟨g,off,cap,?_,fun i x hi=>?_⟩
  ·simpa using World.var?_cell hg0 hv0 0
  ·have hlt:=(List.getElem?_eq_some_iff.1 hi).1
   have h9:kindsC.length=9:=rfl
   have:=hcell i (by omega)
   rw[Go.WideShapes.add_plain]at this
   rw[this]
   have hi2:=hi
   rw[hk,List.getElem?_take,if_pos (by omega)]at hi2
   rw[List.getD_eq_getElem?_getD,hi2];rfl
end
section
open Go.RowKit Qs Qh
def kEnter:ByteArray:=⟨#[101,110,116,101,114]⟩
def kLeave:ByteArray:=⟨#[108,101,97,118,101]⟩
def kRest:ByteArray:=⟨#[114,101,115,116]⟩
def kWait:ByteArray:=⟨#[119,97,105,116]⟩
def kRead:ByteArray:=⟨#[114,101,97,100]⟩
def kPut:ByteArray:=⟨#[112,117,116]⟩
def kDrop:ByteArray:=⟨#[100,114,111,112]⟩
def kLater:ByteArray:=⟨#[108,97,116,101,114]⟩
def kFlush:ByteArray:=⟨#[102,108,117,115,104]⟩
structure CSt where
 d:Nat
 r:Bool
 w:Bool
 u:Bool
deriving DecidableEq
def cfOp(s:CSt)(x:ROp):Int × CSt:=
 if memK kindsC x.1=false∨(x.1≠kPut∧x.2≠0)then (3,s)
 else if x.1=kPut∧(x.2<1∨1000<x.2)then (2,s)
 else if x.1=kEnter then (0,{s with d:=s.d+1})
 else if x.1=kLeave then (if s.d=0 then (8,s)else (0,{s with d:=s.d - 1}))
 else if x.1=kRest∨x.1=kWait∨x.1=kFlush then (if s.d≠0 then (8,s)else (0,{s with w:=s.w||decide (x.1≠kRest)}))
 else if x.1=kRead then (if s.d=0 then (8,s)else (0,s))
 else if x.1=kPut then (if s.d≠0∨s.r=true then (8,s)else (0,{s with r:=true,w:=false}))
 else (if s.r=false then (5,s)else (0,{s with r:=false,u:=s.u||(decide (x.1=kDrop) && !s.w)}))
def cRun:CSt→List ROp→Int × CSt
 |s,[]=>(0,s)
 |s,x :: l=>if (cfOp s x).1≠0 then cfOp s x else cRun (cfOp s x).2 l
def c0:CSt:=⟨0,false,false,false⟩
def cRowF(l:List ROp):Option Int:=if (cRun c0 l).1≠0 then some (cRun c0 l).1 else if (cRun c0 l).2.d≠0 then some 8 else none
def cSafe(l:List ROp):Bool:=!(cRun c0 l).2.u
def cfG(ll:List (List ROp)):Int × Int:=if manyB ll then allR cRowF 0 ll else (2,-1)
def csG(ll:List (List ROp)):Bool:=decide ((cfG ll).1=0)&&ll.all cSafe
theorem cRun_take_succ{x:ROp}{s:CSt}:∀(l:List ROp) (q:Nat) (s0:CSt),l[q]?=some x→cRun s0 (l.take q)=(0,s)→cRun s0 (l.take (q+1))=(if (cfOp s x).1≠0 then cfOp s x else (0,(cfOp s x).2))
 |[],q,s0,h,_=>by simp at h
 |y :: l,0,s0,h,h0=>by
  simp at h;subst h
  simp only[List.take_zero,cRun,Prod.mk.injEq,true_and]at h0
  subst h0
  simp[cRun]
 |y :: l,q+1,s0,h,h0=>by
  rw[List.take_succ_cons]at h0 ⊢
  unfold cRun at h0 ⊢
  by_cases hf:(cfOp s0 y).1≠0
  ·rw[if_pos hf]at h0
   rw[h0]at hf;exact absurd rfl hf
  ·rw[if_neg hf]at h0 ⊢
   exact cRun_take_succ l q _ (by simpa using h) h0
theorem cRun_fault{x:ROp}{s:CSt}:∀(l:List ROp) (q:Nat) (s0:CSt),l[q]?=some x→cRun s0 (l.take q)=(0,s)→(cfOp s x).1≠0→cRun s0 l=cfOp s x
 |[],q,s0,h,_,_=>by simp at h
 |y :: l,0,s0,h,h0,hf=>by
  simp at h;subst h
  simp only[List.take_zero,cRun,Prod.mk.injEq,true_and]at h0
  subst h0
  unfold cRun
  rw[if_pos hf]
 |y :: l,q+1,s0,h,h0,hf=>by
  rw[List.take_succ_cons]at h0
  unfold cRun at h0 ⊢
  by_cases hg:(cfOp s0 y).1≠0
  ·rw[if_pos hg]at h0
   rw[h0]at hg;exact absurd rfl hg
  ·rw[if_neg hg]at h0 ⊢
   exact cRun_fault l q _ (by simpa using h) h0 hf
theorem cfOp_num(s:CSt)(x:ROp):(cfOp s x).1=0∨(cfOp s x).1=2∨(cfOp s x).1=3∨(cfOp s x).1=5∨(cfOp s x).1=8:=by
 unfold cfOp
 repeat' split
 all_goals simp
theorem cRun_num:∀(l:List ROp) (s:CSt),(cRun s l).1=0∨(cRun s l).1=2∨(cRun s l).1=3∨(cRun s l).1=5∨(cRun s l).1=8
 |[],s=>.inl rfl
 |x :: l,s=>by
  unfold cRun
  split
  ·exact cfOp_num s x
  ·exact cRun_num l _
theorem cRowF_num{l:List ROp}{c:Int}(h:cRowF l=some c):c=2∨c=3∨c=5∨c=8:=by
 unfold cRowF at h
 split at h
 ·rename_i hn
  have:=cRun_num l c0
  have hc:=Option.some.inj h
  omega
 ·split at h
  ·have:=Option.some.inj h;omega
  ·cases h
theorem cfG_num(ll:List (List ROp)):cfG ll=(0,-1)∨(cfG ll).1=2∨(cfG ll).1=3∨(cfG ll).1=5∨(cfG ll).1=8:=by
 unfold cfG
 split
 ·rcases allR_cases (rf:=cRowF) ll 0 with ⟨h,_⟩|⟨k,l',c,h1,h2,h3,h4⟩
  ·exact .inl h
  ·rw[h3];exact .inr (cRowF_num h2)
 ·exact .inr (.inl rfl)
end
section
open Go.RowKit Qs Qh
def StAt(w:World)(b:Nat)(s:CSt):Prop:=w.heap[b]?=some (.cells #[.int .i64 (s.d:Int),.bool s.r,.bool s.w,.bool s.u] 154 (0,0))
def SopPost(a:Nat→Addr)(s:CSt)(x:ROp)(b:Nat)(w:World)(e:Ending)(w':World):Prop:=
 ∃ev,e=.returned ev∧((cfOp s x).1=0→ev=.nilIface∧StAt w' b (cfOp s x).2)∧((cfOp s x).1≠0→∃i:Nat,i<9∧(cfOp s x).1=(i:Int)+1∧ev=errV a i)∧Mod (fun k=>k=b) w w'
variable {a:Nat→Addr}{w w':World}{b d:Nat}{r wt u:Bool}{n:Int}{s s':CSt}{x:ROp}
theorem sop_good(hcf:cfOp s x=(0,s'))(hS:StAt w' b s')(hM:Mod (fun k=>k=b) w w'):SopPost a s x b w (.returned .nilIface) w':=
 ⟨_,rfl,fun _=>⟨rfl,by rw[hcf];exact hS⟩,fun h=>absurd (by rw[hcf]) h,hM⟩
theorem sop_bad{c:Int}(i:Nat)(hcf:cfOp s x=(c,s'))(hi:i<9)(hc:c=(i:Int)+1)(hM:Mod (fun k=>k=b) w w'):SopPost a s x b w (.returned (errV a i)) w':=
 ⟨_,rfl,fun h=>by rw[hcf]at h;simp only at h;omega,fun _=>⟨i,hi,by rw[hcf];exact hc,rfl⟩,hM⟩
theorem st_cells{W:World}(h:StAt W b ⟨d,r,wt,u⟩):W.cell? ⟨b,0,none⟩=some (.int .i64 ((d:Nat):Int))∧W.cell? ⟨b,1,none⟩=some (.bool r)∧W.cell? ⟨b,2,none⟩=some (.bool wt)∧W.cell? ⟨b,3,none⟩=some (.bool u)∧W.frozen? ⟨b,0,none⟩=false∧W.frozen? ⟨b,1,none⟩=false∧W.frozen? ⟨b,2,none⟩=false∧W.frozen? ⟨b,3,none⟩=false:=
 ⟨cell_of_heap h 0,cell_of_heap h 1,cell_of_heap h 2,cell_of_heap h 3,free_of_heap h 0,free_of_heap h 1,free_of_heap h 2,free_of_heap h 3⟩
def kLits:List (List UInt8):=[[101,110,116,101,114],[108,101,97,118,101],[114,101,115,116],[119,97,105,116],[102,108,117,115,104],[114,101,97,100],[112,117,116],[100,114,111,112],[108,97,116,101,114]]
theorem kEq(x:ByteArray)(b0 b1 b2 b3 b4 b5 b6 b7 b8:Bool)(h:(kLits.map fun k=>x.data.toList==k)=[b0,b1,b2,b3,b4,b5,b6,b7,b8]) :
  (x.toList==(⟨#[101,110,116,101,114]⟩:ByteArray).toList)=b0∧(x.toList==(⟨#[108,101,97,118,101]⟩:ByteArray).toList)=b1∧(x.toList==(⟨#[114,101,115,116]⟩:ByteArray).toList)=b2∧(x.toList==(⟨#[119,97,105,116]⟩:ByteArray).toList)=b3∧(x.toList==(⟨#[102,108,117,115,104]⟩:ByteArray).toList)=b4∧(x.toList==(⟨#[114,101,97,100]⟩:ByteArray).toList)=b5∧(x.toList==(⟨#[112,117,116]⟩:ByteArray).toList)=b6∧(x.toList==(⟨#[100,114,111,112]⟩:ByteArray).toList)=b7∧(x.toList==(⟨#[108,97,116,101,114]⟩:ByteArray).toList)=b8:=by
 simp only[kLits,List.map_cons,List.map_nil,List.cons.injEq,and_true]at h
 simp only[ByteArray.toList_eq]
 exact h
theorem kM:memK kindsC ⟨#[101,110,116,101,114]⟩=true∧memK kindsC ⟨#[108,101,97,118,101]⟩=true∧memK kindsC ⟨#[114,101,115,116]⟩=true∧memK kindsC ⟨#[119,97,105,116]⟩=true∧memK kindsC ⟨#[102,108,117,115,104]⟩=true∧memK kindsC ⟨#[114,101,97,100]⟩=true∧memK kindsC ⟨#[112,117,116]⟩=true∧memK kindsC ⟨#[100,114,111,112]⟩=true∧memK kindsC ⟨#[108,97,116,101,114]⟩=true:=by decide +kernel
theorem kU:kEnter=⟨#[101,110,116,101,114]⟩∧kLeave=⟨#[108,101,97,118,101]⟩∧kRest=⟨#[114,101,115,116]⟩∧kWait=⟨#[119,97,105,116]⟩∧kFlush=⟨#[102,108,117,115,104]⟩∧kRead=⟨#[114,101,97,100]⟩∧kPut=⟨#[112,117,116]⟩∧kDrop=⟨#[100,114,111,112]⟩∧kLater=⟨#[108,97,116,101,114]⟩:=⟨rfl,rfl,rfl,rfl,rfl,rfl,rfl,rfl,rfl⟩
theorem sop_pre(k:ByteArray)(n:Int)(E:ErrsC w a)(HK:KindsW w)(hS:StAt w b ⟨d,r,wt,u⟩)(hk:memK kindsC k=true):∃gk off cap,∀W,W=w.alloc (.cells #[.string k,.int .i64 n] 88)→
  W.cell? ⟨10,0,none⟩=some (.slice (some ⟨gk,off,none⟩) 9 cap)∧W.cell? ⟨b,0,none⟩=some (.int .i64 ((d:Nat):Int))∧W.cell? ⟨b,1,none⟩=some (.bool r)∧W.cell? ⟨b,2,none⟩=some (.bool wt)∧W.cell? ⟨b,3,none⟩=some (.bool u)∧W.frozen? ⟨b,0,none⟩=false∧W.frozen? ⟨b,1,none⟩=false∧W.frozen? ⟨b,2,none⟩=false∧W.frozen? ⟨b,3,none⟩=false∧
  W.cell? ⟨0,0,none⟩=some (.iface 225 (.pointer (some (a 1))))∧W.cell? ⟨1,0,none⟩=some (.iface 225 (.pointer (some (a 2))))∧W.cell? ⟨4,0,none⟩=some (.iface 225 (.pointer (some (a 4))))∧W.cell? ⟨7,0,none⟩=some (.iface 225 (.pointer (some (a 7))))∧
  Hid (StAt W b ⟨d,r,wt,u⟩)∧Hid (Mod noF w W)∧Hid (Calls Tryz.prog 68 #[.slice (some ⟨gk,off,none⟩) 9 cap,.string k] W fun e w'=>e=.returned (.bool true)∧w'=W)∧w.heap.size≠b:=by
 have hq:=(Mod.refl noF w).alloc (.cells #[.string k,.int .i64 n] 88)
 have hS1:=hq.heap hS (fun e=>e)
 have E1:=E.keep hq
 obtain ⟨gk,off,cap,q0,qx⟩:=HK.keep hq
 have hcall:=containsK2 _ gk off cap kindsC k qx (by decide)
 rw[hk]at hcall
 refine ⟨gk,off,cap,?_⟩
 rintro W rfl
 obtain ⟨h0,h1,h2,h3,f0,f1,f2,f3⟩:=st_cells hS1
 exact ⟨q0,h0,h1,h2,h3,f0,f1,f2,f3,E1.v1,E1.v2,E1.v4,E1.v7,Lib.hid hS1,Lib.hid hq,Lib.hid hcall,by have:=lt_of_block hS;omega⟩
theorem sop_enter_n(E:ErrsC w a)(HK:KindsW w)(hn:n≠0)(hS:StAt w b ⟨d,r,wt,u⟩) :
  Calls Tryz.prog 90 #[.pointer (some ⟨b,0,none⟩),.agg #[.string ⟨#[101,110,116,101,114]⟩,.int .i64 n]] w (SopPost a ⟨d,r,wt,u⟩ (kEnter,n) b w):=by
 obtain ⟨gk,off,cap,H⟩:=sop_pre ⟨#[101,110,116,101,114]⟩ n E HK hS (by decide +kernel)
 obtain ⟨q0,h0,h1,h2,h3,f0,f1,f2,f3,v1,v2,v4,v7,HS1,Hq,Hcall,hbz⟩:=H _ rfl
 have hcf:cfOp ⟨d,r,wt,u⟩ (kEnter,n)=(3,⟨d,r,wt,u⟩):=by unfold cfOp;simp[kM,kU,hn]
 obtain ⟨e0,e1,e2,e3,e4,e5,e6,e7,e8⟩:=kEq ⟨#[101,110,116,101,114]⟩ true false false false false false false false false (by decide +kernel)
 have n1:(n==0)=false:=by simpa using hn
 have n2:decide (n=0)=false:=by simpa using hn
 have Hcf:=Lib.hid hcf
 clear H E HK hS hcf
 go_enter Tryz.func90,Tryz.ntmps90
 go_wp2_with fail
 refine Hcall.out.mono ?_
 rintro e w2 ⟨rfl,rfl⟩
 go_wp2
 go_ret
 exact sop_bad 2 Hcf.out (by omega) rfl Hq.out.any
theorem sop_leave_n(E:ErrsC w a)(HK:KindsW w)(hn:n≠0)(hS:StAt w b ⟨d,r,wt,u⟩) :
  Calls Tryz.prog 90 #[.pointer (some ⟨b,0,none⟩),.agg #[.string ⟨#[108,101,97,118,101]⟩,.int .i64 n]] w (SopPost a ⟨d,r,wt,u⟩ (kLeave,n) b w):=by
 obtain ⟨gk,off,cap,H⟩:=sop_pre ⟨#[108,101,97,118,101]⟩ n E HK hS (by decide +kernel)
 obtain ⟨q0,h0,h1,h2,h3,f0,f1,f2,f3,v1,v2,v4,v7,HS1,Hq,Hcall,hbz⟩:=H _ rfl
 have hcf:cfOp ⟨d,r,wt,u⟩ (kLeave,n)=(3,⟨d,r,wt,u⟩):=by unfold cfOp;simp[kM,kU,hn]
 obtain ⟨e0,e1,e2,e3,e4,e5,e6,e7,e8⟩:=kEq ⟨#[108,101,97,118,101]⟩ false true false false false false false false false (by decide +kernel)
 have n1:(n==0)=false:=by simpa using hn
 have n2:decide (n=0)=false:=by simpa using hn
 have Hcf:=Lib.hid hcf
 clear H E HK hS hcf
 go_enter Tryz.func90,Tryz.ntmps90
 go_wp2_with fail
 refine Hcall.out.mono ?_
 rintro e w2 ⟨rfl,rfl⟩
 go_wp2
 go_ret
 exact sop_bad 2 Hcf.out (by omega) rfl Hq.out.any
theorem sop_rest_n(E:ErrsC w a)(HK:KindsW w)(hn:n≠0)(hS:StAt w b ⟨d,r,wt,u⟩) :
  Calls Tryz.prog 90 #[.pointer (some ⟨b,0,none⟩),.agg #[.string ⟨#[114,101,115,116]⟩,.int .i64 n]] w (SopPost a ⟨d,r,wt,u⟩ (kRest,n) b w):=by
 obtain ⟨gk,off,cap,H⟩:=sop_pre ⟨#[114,101,115,116]⟩ n E HK hS (by decide +kernel)
 obtain ⟨q0,h0,h1,h2,h3,f0,f1,f2,f3,v1,v2,v4,v7,HS1,Hq,Hcall,hbz⟩:=H _ rfl
 have hcf:cfOp ⟨d,r,wt,u⟩ (kRest,n)=(3,⟨d,r,wt,u⟩):=by unfold cfOp;simp[kM,kU,hn]
 obtain ⟨e0,e1,e2,e3,e4,e5,e6,e7,e8⟩:=kEq ⟨#[114,101,115,116]⟩ false false true false false false false false false (by decide +kernel)
 have n1:(n==0)=false:=by simpa using hn
 have n2:decide (n=0)=false:=by simpa using hn
 have Hcf:=Lib.hid hcf
 clear H E HK hS hcf
 go_enter Tryz.func90,Tryz.ntmps90
 go_wp2_with fail
 refine Hcall.out.mono ?_
 rintro e w2 ⟨rfl,rfl⟩
 go_wp2
 go_ret
 exact sop_bad 2 Hcf.out (by omega) rfl Hq.out.any
theorem sop_wait_n(E:ErrsC w a)(HK:KindsW w)(hn:n≠0)(hS:StAt w b ⟨d,r,wt,u⟩) :
  Calls Tryz.prog 90 #[.pointer (some ⟨b,0,none⟩),.agg #[.string ⟨#[119,97,105,116]⟩,.int .i64 n]] w (SopPost a ⟨d,r,wt,u⟩ (kWait,n) b w):=by
 obtain ⟨gk,off,cap,H⟩:=sop_pre ⟨#[119,97,105,116]⟩ n E HK hS (by decide +kernel)
 obtain ⟨q0,h0,h1,h2,h3,f0,f1,f2,f3,v1,v2,v4,v7,HS1,Hq,Hcall,hbz⟩:=H _ rfl
 have hcf:cfOp ⟨d,r,wt,u⟩ (kWait,n)=(3,⟨d,r,wt,u⟩):=by unfold cfOp;simp[kM,kU,hn]
 obtain ⟨e0,e1,e2,e3,e4,e5,e6,e7,e8⟩:=kEq ⟨#[119,97,105,116]⟩ false false false true false false false false false (by decide +kernel)
 have n1:(n==0)=false:=by simpa using hn
 have n2:decide (n=0)=false:=by simpa using hn
 have Hcf:=Lib.hid hcf
 clear H E HK hS hcf
 go_enter Tryz.func90,Tryz.ntmps90
 go_wp2_with fail
 refine Hcall.out.mono ?_
 rintro e w2 ⟨rfl,rfl⟩
 go_wp2
 go_ret
 exact sop_bad 2 Hcf.out (by omega) rfl Hq.out.any
theorem sop_read_n(E:ErrsC w a)(HK:KindsW w)(hn:n≠0)(hS:StAt w b ⟨d,r,wt,u⟩) :
  Calls Tryz.prog 90 #[.pointer (some ⟨b,0,none⟩),.agg #[.string ⟨#[114,101,97,100]⟩,.int .i64 n]] w (SopPost a ⟨d,r,wt,u⟩ (kRead,n) b w):=by
 obtain ⟨gk,off,cap,H⟩:=sop_pre ⟨#[114,101,97,100]⟩ n E HK hS (by decide +kernel)
 obtain ⟨q0,h0,h1,h2,h3,f0,f1,f2,f3,v1,v2,v4,v7,HS1,Hq,Hcall,hbz⟩:=H _ rfl
 have hcf:cfOp ⟨d,r,wt,u⟩ (kRead,n)=(3,⟨d,r,wt,u⟩):=by unfold cfOp;simp[kM,kU,hn]
 obtain ⟨e0,e1,e2,e3,e4,e5,e6,e7,e8⟩:=kEq ⟨#[114,101,97,100]⟩ false false false false false true false false false (by decide +kernel)
 have n1:(n==0)=false:=by simpa using hn
 have n2:decide (n=0)=false:=by simpa using hn
 have Hcf:=Lib.hid hcf
 clear H E HK hS hcf
 go_enter Tryz.func90,Tryz.ntmps90
 go_wp2_with fail
 refine Hcall.out.mono ?_
 rintro e w2 ⟨rfl,rfl⟩
 go_wp2
 go_ret
 exact sop_bad 2 Hcf.out (by omega) rfl Hq.out.any
theorem sop_drop_n(E:ErrsC w a)(HK:KindsW w)(hn:n≠0)(hS:StAt w b ⟨d,r,wt,u⟩) :
  Calls Tryz.prog 90 #[.pointer (some ⟨b,0,none⟩),.agg #[.string ⟨#[100,114,111,112]⟩,.int .i64 n]] w (SopPost a ⟨d,r,wt,u⟩ (kDrop,n) b w):=by
 obtain ⟨gk,off,cap,H⟩:=sop_pre ⟨#[100,114,111,112]⟩ n E HK hS (by decide +kernel)
 obtain ⟨q0,h0,h1,h2,h3,f0,f1,f2,f3,v1,v2,v4,v7,HS1,Hq,Hcall,hbz⟩:=H _ rfl
 have hcf:cfOp ⟨d,r,wt,u⟩ (kDrop,n)=(3,⟨d,r,wt,u⟩):=by unfold cfOp;simp[kM,kU,hn]
 obtain ⟨e0,e1,e2,e3,e4,e5,e6,e7,e8⟩:=kEq ⟨#[100,114,111,112]⟩ false false false false false false false true false (by decide +kernel)
 have n1:(n==0)=false:=by simpa using hn
 have n2:decide (n=0)=false:=by simpa using hn
 have Hcf:=Lib.hid hcf
 clear H E HK hS hcf
 go_enter Tryz.func90,Tryz.ntmps90
 go_wp2_with fail
 refine Hcall.out.mono ?_
 rintro e w2 ⟨rfl,rfl⟩
 go_wp2
 go_ret
 exact sop_bad 2 Hcf.out (by omega) rfl Hq.out.any
theorem sop_later_n(E:ErrsC w a)(HK:KindsW w)(hn:n≠0)(hS:StAt w b ⟨d,r,wt,u⟩) :
  Calls Tryz.prog 90 #[.pointer (some ⟨b,0,none⟩),.agg #[.string ⟨#[108,97,116,101,114]⟩,.int .i64 n]] w (SopPost a ⟨d,r,wt,u⟩ (kLater,n) b w):=by
 obtain ⟨gk,off,cap,H⟩:=sop_pre ⟨#[108,97,116,101,114]⟩ n E HK hS (by decide +kernel)
 obtain ⟨q0,h0,h1,h2,h3,f0,f1,f2,f3,v1,v2,v4,v7,HS1,Hq,Hcall,hbz⟩:=H _ rfl
 have hcf:cfOp ⟨d,r,wt,u⟩ (kLater,n)=(3,⟨d,r,wt,u⟩):=by unfold cfOp;simp[kM,kU,hn]
 obtain ⟨e0,e1,e2,e3,e4,e5,e6,e7,e8⟩:=kEq ⟨#[108,97,116,101,114]⟩ false false false false false false false false true (by decide +kernel)
 have n1:(n==0)=false:=by simpa using hn
 have n2:decide (n=0)=false:=by simpa using hn
 have Hcf:=Lib.hid hcf
 clear H E HK hS hcf
 go_enter Tryz.func90,Tryz.ntmps90
 go_wp2_with fail
 refine Hcall.out.mono ?_
 rintro e w2 ⟨rfl,rfl⟩
 go_wp2
 go_ret
 exact sop_bad 2 Hcf.out (by omega) rfl Hq.out.any
theorem sop_flush_n(E:ErrsC w a)(HK:KindsW w)(hn:n≠0)(hS:StAt w b ⟨d,r,wt,u⟩) :
  Calls Tryz.prog 90 #[.pointer (some ⟨b,0,none⟩),.agg #[.string ⟨#[102,108,117,115,104]⟩,.int .i64 n]] w (SopPost a ⟨d,r,wt,u⟩ (kFlush,n) b w):=by
 obtain ⟨gk,off,cap,H⟩:=sop_pre ⟨#[102,108,117,115,104]⟩ n E HK hS (by decide +kernel)
 obtain ⟨q0,h0,h1,h2,h3,f0,f1,f2,f3,v1,v2,v4,v7,HS1,Hq,Hcall,hbz⟩:=H _ rfl
 have hcf:cfOp ⟨d,r,wt,u⟩ (kFlush,n)=(3,⟨d,r,wt,u⟩):=by unfold cfOp;simp[kM,kU,hn]
 obtain ⟨e0,e1,e2,e3,e4,e5,e6,e7,e8⟩:=kEq ⟨#[102,108,117,115,104]⟩ false false false false true false false false false (by decide +kernel)
 have n1:(n==0)=false:=by simpa using hn
 have n2:decide (n=0)=false:=by simpa using hn
 have Hcf:=Lib.hid hcf
 clear H E HK hS hcf
 go_enter Tryz.func90,Tryz.ntmps90
 go_wp2_with fail
 refine Hcall.out.mono ?_
 rintro e w2 ⟨rfl,rfl⟩
 go_wp2
 go_ret
 exact sop_bad 2 Hcf.out (by omega) rfl Hq.out.any
theorem sop_enter(E:ErrsC w a)(HK:KindsW w)(hd:d≤1000)(hS:StAt w b ⟨d,r,wt,u⟩) :
  Calls Tryz.prog 90 #[.pointer (some ⟨b,0,none⟩),.agg #[.string ⟨#[101,110,116,101,114]⟩,.int .i64 0]] w (SopPost a ⟨d,r,wt,u⟩ (kEnter,0) b w):=by
 obtain ⟨gk,off,cap,H⟩:=sop_pre ⟨#[101,110,116,101,114]⟩ 0 E HK hS (by decide +kernel)
 obtain ⟨q0,h0,h1,h2,h3,f0,f1,f2,f3,v1,v2,v4,v7,HS1,Hq,Hcall,hbz⟩:=H _ rfl
 have hcf:cfOp ⟨d,r,wt,u⟩ (kEnter,0)=(0,⟨d+1,r,wt,u⟩):=by unfold cfOp;simp[kM,kU]
 obtain ⟨e0,e1,e2,e3,e4,e5,e6,e7,e8⟩:=kEq ⟨#[101,110,116,101,114]⟩ true false false false false false false false false (by decide +kernel)
 have Hcf:=Lib.hid hcf
 clear H E HK hS hcf
 go_enter Tryz.func90,Tryz.ntmps90
 go_wp2_with fail
 refine Hcall.out.mono ?_
 rintro e w2 ⟨rfl,rfl⟩
 go_wp2
 go_ret
 refine sop_good Hcf.out ?_ ((show Qh.Mod (fun k=>k=b) w _ from Hq.out.any).setCell (fun _=>rfl) _)
 unfold StAt
 rw[show (((d+1:Nat)):Int)=(d:Int)+1 by omega];rw[Qh.heap_setCell_same (HS1.out) 0 _];rfl
theorem sop_leave_0(E:ErrsC w a)(HK:KindsW w)(hS:StAt w b ⟨0,r,wt,u⟩) :
  Calls Tryz.prog 90 #[.pointer (some ⟨b,0,none⟩),.agg #[.string ⟨#[108,101,97,118,101]⟩,.int .i64 0]] w (SopPost a ⟨0,r,wt,u⟩ (kLeave,0) b w):=by
 obtain ⟨gk,off,cap,H⟩:=sop_pre ⟨#[108,101,97,118,101]⟩ 0 E HK hS (by decide +kernel)
 obtain ⟨q0,h0,h1,h2,h3,f0,f1,f2,f3,v1,v2,v4,v7,HS1,Hq,Hcall,hbz⟩:=H _ rfl
 have hcf:cfOp ⟨0,r,wt,u⟩ (kLeave,0)=(8,⟨0,r,wt,u⟩):=by unfold cfOp;simp[kM,kU]
 obtain ⟨e0,e1,e2,e3,e4,e5,e6,e7,e8⟩:=kEq ⟨#[108,101,97,118,101]⟩ false true false false false false false false false (by decide +kernel)
 have Hcf:=Lib.hid hcf
 clear H E HK hS hcf
 go_enter Tryz.func90,Tryz.ntmps90
 go_wp2_with fail
 refine Hcall.out.mono ?_
 rintro e w2 ⟨rfl,rfl⟩
 go_wp2
 go_ret
 exact sop_bad 7 Hcf.out (by omega) rfl Hq.out.any
theorem sop_leave(E:ErrsC w a)(HK:KindsW w)(hd:1≤d)(hd2:d≤1000)(hS:StAt w b ⟨d,r,wt,u⟩) :
  Calls Tryz.prog 90 #[.pointer (some ⟨b,0,none⟩),.agg #[.string ⟨#[108,101,97,118,101]⟩,.int .i64 0]] w (SopPost a ⟨d,r,wt,u⟩ (kLeave,0) b w):=by
 obtain ⟨gk,off,cap,H⟩:=sop_pre ⟨#[108,101,97,118,101]⟩ 0 E HK hS (by decide +kernel)
 obtain ⟨q0,h0,h1,h2,h3,f0,f1,f2,f3,v1,v2,v4,v7,HS1,Hq,Hcall,hbz⟩:=H _ rfl
 have hcf:cfOp ⟨d,r,wt,u⟩ (kLeave,0)=(0,⟨d - 1,r,wt,u⟩):=by unfold cfOp;simp[kM,kU,show ¬d=0 by omega]
 obtain ⟨e0,e1,e2,e3,e4,e5,e6,e7,e8⟩:=kEq ⟨#[108,101,97,118,101]⟩ false true false false false false false false false (by decide +kernel)
 have d1:((d:Int)==0)=false:=by simp;omega
 have d2:decide ((d:Int)=0)=false:=by simp;omega
 have Hcf:=Lib.hid hcf
 clear H E HK hS hcf
 go_enter Tryz.func90,Tryz.ntmps90
 go_wp2_with fail
 refine Hcall.out.mono ?_
 rintro e w2 ⟨rfl,rfl⟩
 go_wp2
 go_ret
 refine sop_good Hcf.out ?_ ((show Qh.Mod (fun k=>k=b) w _ from Hq.out.any).setCell (fun _=>rfl) _)
 unfold StAt
 rw[show (((d - 1:Nat)):Int)=(d:Int) - 1 by omega];rw[Qh.heap_setCell_same (HS1.out) 0 _];rfl
theorem sop_rest_d(E:ErrsC w a)(HK:KindsW w)(hd:1≤d)(hS:StAt w b ⟨d,r,wt,u⟩) :
  Calls Tryz.prog 90 #[.pointer (some ⟨b,0,none⟩),.agg #[.string ⟨#[114,101,115,116]⟩,.int .i64 0]] w (SopPost a ⟨d,r,wt,u⟩ (kRest,0) b w):=by
 obtain ⟨gk,off,cap,H⟩:=sop_pre ⟨#[114,101,115,116]⟩ 0 E HK hS (by decide +kernel)
 obtain ⟨q0,h0,h1,h2,h3,f0,f1,f2,f3,v1,v2,v4,v7,HS1,Hq,Hcall,hbz⟩:=H _ rfl
 have hcf:cfOp ⟨d,r,wt,u⟩ (kRest,0)=(8,⟨d,r,wt,u⟩):=by unfold cfOp;simp[kM,kU,show ¬d=0 by omega]
 obtain ⟨e0,e1,e2,e3,e4,e5,e6,e7,e8⟩:=kEq ⟨#[114,101,115,116]⟩ false false true false false false false false false (by decide +kernel)
 have d1:((d:Int)==0)=false:=by simp;omega
 have d2:decide ((d:Int)=0)=false:=by simp;omega
 have Hcf:=Lib.hid hcf
 clear H E HK hS hcf
 go_enter Tryz.func90,Tryz.ntmps90
 go_wp2_with fail
 refine Hcall.out.mono ?_
 rintro e w2 ⟨rfl,rfl⟩
 go_wp2
 go_ret
 exact sop_bad 7 Hcf.out (by omega) rfl Hq.out.any
theorem sop_rest_t(E:ErrsC w a)(HK:KindsW w)(hS:StAt w b ⟨0,r,true,u⟩) :
  Calls Tryz.prog 90 #[.pointer (some ⟨b,0,none⟩),.agg #[.string ⟨#[114,101,115,116]⟩,.int .i64 0]] w (SopPost a ⟨0,r,true,u⟩ (kRest,0) b w):=by
 obtain ⟨gk,off,cap,H⟩:=sop_pre ⟨#[114,101,115,116]⟩ 0 E HK hS (by decide +kernel)
 obtain ⟨q0,h0,h1,h2,h3,f0,f1,f2,f3,v1,v2,v4,v7,HS1,Hq,Hcall,hbz⟩:=H _ rfl
 have hcf:cfOp ⟨0,r,true,u⟩ (kRest,0)=(0,⟨0,r,true,u⟩):=by unfold cfOp;simp[kM,kU]
 obtain ⟨e0,e1,e2,e3,e4,e5,e6,e7,e8⟩:=kEq ⟨#[114,101,115,116]⟩ false false true false false false false false false (by decide +kernel)
 have Hcf:=Lib.hid hcf
 clear H E HK hS hcf
 go_enter Tryz.func90,Tryz.ntmps90
 go_wp2_with fail
 refine Hcall.out.mono ?_
 rintro e w2 ⟨rfl,rfl⟩
 go_wp2
 go_ret
 refine sop_good Hcf.out ?_ ((show Qh.Mod (fun k=>k=b) w _ from Hq.out.any).setCell (fun _=>rfl) _)
 unfold StAt
 rw[Qh.heap_setCell_same (HS1.out) 2 _];rfl
theorem sop_rest_f(E:ErrsC w a)(HK:KindsW w)(hS:StAt w b ⟨0,r,false,u⟩) :
  Calls Tryz.prog 90 #[.pointer (some ⟨b,0,none⟩),.agg #[.string ⟨#[114,101,115,116]⟩,.int .i64 0]] w (SopPost a ⟨0,r,false,u⟩ (kRest,0) b w):=by
 obtain ⟨gk,off,cap,H⟩:=sop_pre ⟨#[114,101,115,116]⟩ 0 E HK hS (by decide +kernel)
 obtain ⟨q0,h0,h1,h2,h3,f0,f1,f2,f3,v1,v2,v4,v7,HS1,Hq,Hcall,hbz⟩:=H _ rfl
 have hcf:cfOp ⟨0,r,false,u⟩ (kRest,0)=(0,⟨0,r,false,u⟩):=by unfold cfOp;simp[kM,kU]
 obtain ⟨e0,e1,e2,e3,e4,e5,e6,e7,e8⟩:=kEq ⟨#[114,101,115,116]⟩ false false true false false false false false false (by decide +kernel)
 have Hcf:=Lib.hid hcf
 clear H E HK hS hcf
 go_enter Tryz.func90,Tryz.ntmps90
 go_wp2_with fail
 refine Hcall.out.mono ?_
 rintro e w2 ⟨rfl,rfl⟩
 go_wp2
 go_ret
 refine sop_good Hcf.out ?_ ((show Qh.Mod (fun k=>k=b) w _ from Hq.out.any).setCell (fun _=>rfl) _)
 unfold StAt
 rw[Qh.heap_setCell_same (HS1.out) 2 _];rfl
theorem sop_wait_d(E:ErrsC w a)(HK:KindsW w)(hd:1≤d)(hS:StAt w b ⟨d,r,wt,u⟩) :
  Calls Tryz.prog 90 #[.pointer (some ⟨b,0,none⟩),.agg #[.string ⟨#[119,97,105,116]⟩,.int .i64 0]] w (SopPost a ⟨d,r,wt,u⟩ (kWait,0) b w):=by
 obtain ⟨gk,off,cap,H⟩:=sop_pre ⟨#[119,97,105,116]⟩ 0 E HK hS (by decide +kernel)
 obtain ⟨q0,h0,h1,h2,h3,f0,f1,f2,f3,v1,v2,v4,v7,HS1,Hq,Hcall,hbz⟩:=H _ rfl
 have hcf:cfOp ⟨d,r,wt,u⟩ (kWait,0)=(8,⟨d,r,wt,u⟩):=by unfold cfOp;simp[kM,kU,show ¬d=0 by omega]
 obtain ⟨e0,e1,e2,e3,e4,e5,e6,e7,e8⟩:=kEq ⟨#[119,97,105,116]⟩ false false false true false false false false false (by decide +kernel)
 have d1:((d:Int)==0)=false:=by simp;omega
 have d2:decide ((d:Int)=0)=false:=by simp;omega
 have Hcf:=Lib.hid hcf
 clear H E HK hS hcf
 go_enter Tryz.func90,Tryz.ntmps90
 go_wp2_with fail
 refine Hcall.out.mono ?_
 rintro e w2 ⟨rfl,rfl⟩
 go_wp2
 go_ret
 exact sop_bad 7 Hcf.out (by omega) rfl Hq.out.any
theorem sop_wait_t(E:ErrsC w a)(HK:KindsW w)(hS:StAt w b ⟨0,r,true,u⟩) :
  Calls Tryz.prog 90 #[.pointer (some ⟨b,0,none⟩),.agg #[.string ⟨#[119,97,105,116]⟩,.int .i64 0]] w (SopPost a ⟨0,r,true,u⟩ (kWait,0) b w):=by
 obtain ⟨gk,off,cap,H⟩:=sop_pre ⟨#[119,97,105,116]⟩ 0 E HK hS (by decide +kernel)
 obtain ⟨q0,h0,h1,h2,h3,f0,f1,f2,f3,v1,v2,v4,v7,HS1,Hq,Hcall,hbz⟩:=H _ rfl
 have hcf:cfOp ⟨0,r,true,u⟩ (kWait,0)=(0,⟨0,r,true,u⟩):=by unfold cfOp;simp[kM,kU]
 obtain ⟨e0,e1,e2,e3,e4,e5,e6,e7,e8⟩:=kEq ⟨#[119,97,105,116]⟩ false false false true false false false false false (by decide +kernel)
 have Hcf:=Lib.hid hcf
 clear H E HK hS hcf
 go_enter Tryz.func90,Tryz.ntmps90
 go_wp2_with fail
 refine Hcall.out.mono ?_
 rintro e w2 ⟨rfl,rfl⟩
 go_wp2
 go_ret
 refine sop_good Hcf.out ?_ ((show Qh.Mod (fun k=>k=b) w _ from Hq.out.any).setCell (fun _=>rfl) _)
 unfold StAt
 rw[Qh.heap_setCell_same (HS1.out) 2 _];rfl
theorem sop_wait_f(E:ErrsC w a)(HK:KindsW w)(hS:StAt w b ⟨0,r,false,u⟩) :
  Calls Tryz.prog 90 #[.pointer (some ⟨b,0,none⟩),.agg #[.string ⟨#[119,97,105,116]⟩,.int .i64 0]] w (SopPost a ⟨0,r,false,u⟩ (kWait,0) b w):=by
 obtain ⟨gk,off,cap,H⟩:=sop_pre ⟨#[119,97,105,116]⟩ 0 E HK hS (by decide +kernel)
 obtain ⟨q0,h0,h1,h2,h3,f0,f1,f2,f3,v1,v2,v4,v7,HS1,Hq,Hcall,hbz⟩:=H _ rfl
 have hcf:cfOp ⟨0,r,false,u⟩ (kWait,0)=(0,⟨0,r,true,u⟩):=by unfold cfOp;simp[kM,kU]
 obtain ⟨e0,e1,e2,e3,e4,e5,e6,e7,e8⟩:=kEq ⟨#[119,97,105,116]⟩ false false false true false false false false false (by decide +kernel)
 have Hcf:=Lib.hid hcf
 clear H E HK hS hcf
 go_enter Tryz.func90,Tryz.ntmps90
 go_wp2_with fail
 refine Hcall.out.mono ?_
 rintro e w2 ⟨rfl,rfl⟩
 go_wp2
 go_ret
 refine sop_good Hcf.out ?_ ((show Qh.Mod (fun k=>k=b) w _ from Hq.out.any).setCell (fun _=>rfl) _)
 unfold StAt
 rw[Qh.heap_setCell_same (HS1.out) 2 _];rfl
theorem sop_flush_d(E:ErrsC w a)(HK:KindsW w)(hd:1≤d)(hS:StAt w b ⟨d,r,wt,u⟩) :
  Calls Tryz.prog 90 #[.pointer (some ⟨b,0,none⟩),.agg #[.string ⟨#[102,108,117,115,104]⟩,.int .i64 0]] w (SopPost a ⟨d,r,wt,u⟩ (kFlush,0) b w):=by
 obtain ⟨gk,off,cap,H⟩:=sop_pre ⟨#[102,108,117,115,104]⟩ 0 E HK hS (by decide +kernel)
 obtain ⟨q0,h0,h1,h2,h3,f0,f1,f2,f3,v1,v2,v4,v7,HS1,Hq,Hcall,hbz⟩:=H _ rfl
 have hcf:cfOp ⟨d,r,wt,u⟩ (kFlush,0)=(8,⟨d,r,wt,u⟩):=by unfold cfOp;simp[kM,kU,show ¬d=0 by omega]
 obtain ⟨e0,e1,e2,e3,e4,e5,e6,e7,e8⟩:=kEq ⟨#[102,108,117,115,104]⟩ false false false false true false false false false (by decide +kernel)
 have d1:((d:Int)==0)=false:=by simp;omega
 have d2:decide ((d:Int)=0)=false:=by simp;omega
 have Hcf:=Lib.hid hcf
 clear H E HK hS hcf
 go_enter Tryz.func90,Tryz.ntmps90
 go_wp2_with fail
 refine Hcall.out.mono ?_
 rintro e w2 ⟨rfl,rfl⟩
 go_wp2
 go_ret
 exact sop_bad 7 Hcf.out (by omega) rfl Hq.out.any
theorem sop_flush_t(E:ErrsC w a)(HK:KindsW w)(hS:StAt w b ⟨0,r,true,u⟩) :
  Calls Tryz.prog 90 #[.pointer (some ⟨b,0,none⟩),.agg #[.string ⟨#[102,108,117,115,104]⟩,.int .i64 0]] w (SopPost a ⟨0,r,true,u⟩ (kFlush,0) b w):=by
 obtain ⟨gk,off,cap,H⟩:=sop_pre ⟨#[102,108,117,115,104]⟩ 0 E HK hS (by decide +kernel)
 obtain ⟨q0,h0,h1,h2,h3,f0,f1,f2,f3,v1,v2,v4,v7,HS1,Hq,Hcall,hbz⟩:=H _ rfl
 have hcf:cfOp ⟨0,r,true,u⟩ (kFlush,0)=(0,⟨0,r,true,u⟩):=by unfold cfOp;simp[kM,kU]
 obtain ⟨e0,e1,e2,e3,e4,e5,e6,e7,e8⟩:=kEq ⟨#[102,108,117,115,104]⟩ false false false false true false false false false (by decide +kernel)
 have Hcf:=Lib.hid hcf
 clear H E HK hS hcf
 go_enter Tryz.func90,Tryz.ntmps90
 go_wp2_with fail
 refine Hcall.out.mono ?_
 rintro e w2 ⟨rfl,rfl⟩
 go_wp2
 go_ret
 refine sop_good Hcf.out ?_ ((show Qh.Mod (fun k=>k=b) w _ from Hq.out.any).setCell (fun _=>rfl) _)
 unfold StAt
 rw[Qh.heap_setCell_same (HS1.out) 2 _];rfl
theorem sop_flush_f(E:ErrsC w a)(HK:KindsW w)(hS:StAt w b ⟨0,r,false,u⟩) :
  Calls Tryz.prog 90 #[.pointer (some ⟨b,0,none⟩),.agg #[.string ⟨#[102,108,117,115,104]⟩,.int .i64 0]] w (SopPost a ⟨0,r,false,u⟩ (kFlush,0) b w):=by
 obtain ⟨gk,off,cap,H⟩:=sop_pre ⟨#[102,108,117,115,104]⟩ 0 E HK hS (by decide +kernel)
 obtain ⟨q0,h0,h1,h2,h3,f0,f1,f2,f3,v1,v2,v4,v7,HS1,Hq,Hcall,hbz⟩:=H _ rfl
 have hcf:cfOp ⟨0,r,false,u⟩ (kFlush,0)=(0,⟨0,r,true,u⟩):=by unfold cfOp;simp[kM,kU]
 obtain ⟨e0,e1,e2,e3,e4,e5,e6,e7,e8⟩:=kEq ⟨#[102,108,117,115,104]⟩ false false false false true false false false false (by decide +kernel)
 have Hcf:=Lib.hid hcf
 clear H E HK hS hcf
 go_enter Tryz.func90,Tryz.ntmps90
 go_wp2_with fail
 refine Hcall.out.mono ?_
 rintro e w2 ⟨rfl,rfl⟩
 go_wp2
 go_ret
 refine sop_good Hcf.out ?_ ((show Qh.Mod (fun k=>k=b) w _ from Hq.out.any).setCell (fun _=>rfl) _)
 unfold StAt
 rw[Qh.heap_setCell_same (HS1.out) 2 _];rfl
theorem sop_read_0(E:ErrsC w a)(HK:KindsW w)(hS:StAt w b ⟨0,r,wt,u⟩) :
  Calls Tryz.prog 90 #[.pointer (some ⟨b,0,none⟩),.agg #[.string ⟨#[114,101,97,100]⟩,.int .i64 0]] w (SopPost a ⟨0,r,wt,u⟩ (kRead,0) b w):=by
 obtain ⟨gk,off,cap,H⟩:=sop_pre ⟨#[114,101,97,100]⟩ 0 E HK hS (by decide +kernel)
 obtain ⟨q0,h0,h1,h2,h3,f0,f1,f2,f3,v1,v2,v4,v7,HS1,Hq,Hcall,hbz⟩:=H _ rfl
 have hcf:cfOp ⟨0,r,wt,u⟩ (kRead,0)=(8,⟨0,r,wt,u⟩):=by unfold cfOp;simp[kM,kU]
 obtain ⟨e0,e1,e2,e3,e4,e5,e6,e7,e8⟩:=kEq ⟨#[114,101,97,100]⟩ false false false false false true false false false (by decide +kernel)
 have Hcf:=Lib.hid hcf
 clear H E HK hS hcf
 go_enter Tryz.func90,Tryz.ntmps90
 go_wp2_with fail
 refine Hcall.out.mono ?_
 rintro e w2 ⟨rfl,rfl⟩
 go_wp2
 go_ret
 exact sop_bad 7 Hcf.out (by omega) rfl Hq.out.any
theorem sop_read(E:ErrsC w a)(HK:KindsW w)(hd:1≤d)(hS:StAt w b ⟨d,r,wt,u⟩) :
  Calls Tryz.prog 90 #[.pointer (some ⟨b,0,none⟩),.agg #[.string ⟨#[114,101,97,100]⟩,.int .i64 0]] w (SopPost a ⟨d,r,wt,u⟩ (kRead,0) b w):=by
 obtain ⟨gk,off,cap,H⟩:=sop_pre ⟨#[114,101,97,100]⟩ 0 E HK hS (by decide +kernel)
 obtain ⟨q0,h0,h1,h2,h3,f0,f1,f2,f3,v1,v2,v4,v7,HS1,Hq,Hcall,hbz⟩:=H _ rfl
 have hcf:cfOp ⟨d,r,wt,u⟩ (kRead,0)=(0,⟨d,r,wt,u⟩):=by unfold cfOp;simp[kM,kU,show ¬d=0 by omega]
 obtain ⟨e0,e1,e2,e3,e4,e5,e6,e7,e8⟩:=kEq ⟨#[114,101,97,100]⟩ false false false false false true false false false (by decide +kernel)
 have d1:((d:Int)==0)=false:=by simp;omega
 have d2:decide ((d:Int)=0)=false:=by simp;omega
 have Hcf:=Lib.hid hcf
 clear H E HK hS hcf
 go_enter Tryz.func90,Tryz.ntmps90
 go_wp2_with fail
 refine Hcall.out.mono ?_
 rintro e w2 ⟨rfl,rfl⟩
 go_wp2
 go_ret
 exact sop_good Hcf.out HS1.out Hq.out.any
theorem sop_put_lo(E:ErrsC w a)(HK:KindsW w)(hn:n<1)(hS:StAt w b ⟨d,r,wt,u⟩) :
  Calls Tryz.prog 90 #[.pointer (some ⟨b,0,none⟩),.agg #[.string ⟨#[112,117,116]⟩,.int .i64 n]] w (SopPost a ⟨d,r,wt,u⟩ (kPut,n) b w):=by
 obtain ⟨gk,off,cap,H⟩:=sop_pre ⟨#[112,117,116]⟩ n E HK hS (by decide +kernel)
 obtain ⟨q0,h0,h1,h2,h3,f0,f1,f2,f3,v1,v2,v4,v7,HS1,Hq,Hcall,hbz⟩:=H _ rfl
 have hcf:cfOp ⟨d,r,wt,u⟩ (kPut,n)=(2,⟨d,r,wt,u⟩):=by unfold cfOp;simp[kM,kU,hn]
 obtain ⟨e0,e1,e2,e3,e4,e5,e6,e7,e8⟩:=kEq ⟨#[112,117,116]⟩ false false false false false false true false false (by decide +kernel)
 have n1:decide (n<1)=true:=by simpa using hn
 have Hcf:=Lib.hid hcf
 clear H E HK hS hcf
 go_enter Tryz.func90,Tryz.ntmps90
 go_wp2_with fail
 refine Hcall.out.mono ?_
 rintro e w2 ⟨rfl,rfl⟩
 go_wp2
 go_ret
 exact sop_bad 1 Hcf.out (by omega) rfl Hq.out.any
theorem sop_put_hi(E:ErrsC w a)(HK:KindsW w)(hn:1000<n)(hS:StAt w b ⟨d,r,wt,u⟩) :
  Calls Tryz.prog 90 #[.pointer (some ⟨b,0,none⟩),.agg #[.string ⟨#[112,117,116]⟩,.int .i64 n]] w (SopPost a ⟨d,r,wt,u⟩ (kPut,n) b w):=by
 obtain ⟨gk,off,cap,H⟩:=sop_pre ⟨#[112,117,116]⟩ n E HK hS (by decide +kernel)
 obtain ⟨q0,h0,h1,h2,h3,f0,f1,f2,f3,v1,v2,v4,v7,HS1,Hq,Hcall,hbz⟩:=H _ rfl
 have hcf:cfOp ⟨d,r,wt,u⟩ (kPut,n)=(2,⟨d,r,wt,u⟩):=by unfold cfOp;simp[kM,kU,hn,show ¬n<1 by omega]
 obtain ⟨e0,e1,e2,e3,e4,e5,e6,e7,e8⟩:=kEq ⟨#[112,117,116]⟩ false false false false false false true false false (by decide +kernel)
 have n1:decide (n<1)=false:=by simp;omega
 have n2:decide (1000<n)=true:=by simpa using hn
 have Hcf:=Lib.hid hcf
 clear H E HK hS hcf
 go_enter Tryz.func90,Tryz.ntmps90
 go_wp2_with fail
 refine Hcall.out.mono ?_
 rintro e w2 ⟨rfl,rfl⟩
 go_wp2
 go_ret
 exact sop_bad 1 Hcf.out (by omega) rfl Hq.out.any
theorem sop_put_d(E:ErrsC w a)(HK:KindsW w)(hn:1≤n)(hn2:n≤1000)(hd:1≤d)(hS:StAt w b ⟨d,r,wt,u⟩) :
  Calls Tryz.prog 90 #[.pointer (some ⟨b,0,none⟩),.agg #[.string ⟨#[112,117,116]⟩,.int .i64 n]] w (SopPost a ⟨d,r,wt,u⟩ (kPut,n) b w):=by
 obtain ⟨gk,off,cap,H⟩:=sop_pre ⟨#[112,117,116]⟩ n E HK hS (by decide +kernel)
 obtain ⟨q0,h0,h1,h2,h3,f0,f1,f2,f3,v1,v2,v4,v7,HS1,Hq,Hcall,hbz⟩:=H _ rfl
 have hcf:cfOp ⟨d,r,wt,u⟩ (kPut,n)=(8,⟨d,r,wt,u⟩):=by unfold cfOp;simp[kM,kU,show ¬n<1 by omega,show ¬1000<n by omega,show ¬d=0 by omega]
 obtain ⟨e0,e1,e2,e3,e4,e5,e6,e7,e8⟩:=kEq ⟨#[112,117,116]⟩ false false false false false false true false false (by decide +kernel)
 have n1:decide (n<1)=false:=by simp;omega
 have n2:decide (1000<n)=false:=by simp;omega
 have d1:((d:Int)==0)=false:=by simp;omega
 have d2:decide ((d:Int)=0)=false:=by simp;omega
 have Hcf:=Lib.hid hcf
 clear H E HK hS hcf
 go_enter Tryz.func90,Tryz.ntmps90
 go_wp2_with fail
 refine Hcall.out.mono ?_
 rintro e w2 ⟨rfl,rfl⟩
 go_wp2
 go_ret
 exact sop_bad 7 Hcf.out (by omega) rfl Hq.out.any
theorem sop_put_r(E:ErrsC w a)(HK:KindsW w)(hn:1≤n)(hn2:n≤1000)(hS:StAt w b ⟨0,true,wt,u⟩) :
  Calls Tryz.prog 90 #[.pointer (some ⟨b,0,none⟩),.agg #[.string ⟨#[112,117,116]⟩,.int .i64 n]] w (SopPost a ⟨0,true,wt,u⟩ (kPut,n) b w):=by
 obtain ⟨gk,off,cap,H⟩:=sop_pre ⟨#[112,117,116]⟩ n E HK hS (by decide +kernel)
 obtain ⟨q0,h0,h1,h2,h3,f0,f1,f2,f3,v1,v2,v4,v7,HS1,Hq,Hcall,hbz⟩:=H _ rfl
 have hcf:cfOp ⟨0,true,wt,u⟩ (kPut,n)=(8,⟨0,true,wt,u⟩):=by unfold cfOp;simp[kM,kU,show ¬n<1 by omega,show ¬1000<n by omega]
 obtain ⟨e0,e1,e2,e3,e4,e5,e6,e7,e8⟩:=kEq ⟨#[112,117,116]⟩ false false false false false false true false false (by decide +kernel)
 have n1:decide (n<1)=false:=by simp;omega
 have n2:decide (1000<n)=false:=by simp;omega
 have Hcf:=Lib.hid hcf
 clear H E HK hS hcf
 go_enter Tryz.func90,Tryz.ntmps90
 go_wp2_with fail
 refine Hcall.out.mono ?_
 rintro e w2 ⟨rfl,rfl⟩
 go_wp2
 go_ret
 exact sop_bad 7 Hcf.out (by omega) rfl Hq.out.any
theorem sop_put(E:ErrsC w a)(HK:KindsW w)(hn:1≤n)(hn2:n≤1000)(hS:StAt w b ⟨0,false,wt,u⟩) :
  Calls Tryz.prog 90 #[.pointer (some ⟨b,0,none⟩),.agg #[.string ⟨#[112,117,116]⟩,.int .i64 n]] w (SopPost a ⟨0,false,wt,u⟩ (kPut,n) b w):=by
 obtain ⟨gk,off,cap,H⟩:=sop_pre ⟨#[112,117,116]⟩ n E HK hS (by decide +kernel)
 obtain ⟨q0,h0,h1,h2,h3,f0,f1,f2,f3,v1,v2,v4,v7,HS1,Hq,Hcall,hbz⟩:=H _ rfl
 have hcf:cfOp ⟨0,false,wt,u⟩ (kPut,n)=(0,⟨0,true,false,u⟩):=by unfold cfOp;simp[kM,kU,show ¬n<1 by omega,show ¬1000<n by omega]
 obtain ⟨e0,e1,e2,e3,e4,e5,e6,e7,e8⟩:=kEq ⟨#[112,117,116]⟩ false false false false false false true false false (by decide +kernel)
 have n1:decide (n<1)=false:=by simp;omega
 have n2:decide (1000<n)=false:=by simp;omega
 have Hcf:=Lib.hid hcf
 clear H E HK hS hcf
 go_enter Tryz.func90,Tryz.ntmps90
 go_wp2_with fail
 refine Hcall.out.mono ?_
 rintro e w2 ⟨rfl,rfl⟩
 go_wp2
 go_ret
 refine sop_good Hcf.out ?_ (((show Qh.Mod (fun k=>k=b) w _ from Hq.out.any).setCell (fun _=>rfl) _).setCell (fun _=>rfl) _)
 unfold StAt
 rw[Qh.heap_setCell_same (Qh.heap_setCell_same (HS1.out) 1 _) 2 _];rfl
theorem sop_drop_r(E:ErrsC w a)(HK:KindsW w)(hS:StAt w b ⟨d,false,wt,u⟩) :
  Calls Tryz.prog 90 #[.pointer (some ⟨b,0,none⟩),.agg #[.string ⟨#[100,114,111,112]⟩,.int .i64 0]] w (SopPost a ⟨d,false,wt,u⟩ (kDrop,0) b w):=by
 obtain ⟨gk,off,cap,H⟩:=sop_pre ⟨#[100,114,111,112]⟩ 0 E HK hS (by decide +kernel)
 obtain ⟨q0,h0,h1,h2,h3,f0,f1,f2,f3,v1,v2,v4,v7,HS1,Hq,Hcall,hbz⟩:=H _ rfl
 have hcf:cfOp ⟨d,false,wt,u⟩ (kDrop,0)=(5,⟨d,false,wt,u⟩):=by unfold cfOp;simp[kM,kU]
 obtain ⟨e0,e1,e2,e3,e4,e5,e6,e7,e8⟩:=kEq ⟨#[100,114,111,112]⟩ false false false false false false false true false (by decide +kernel)
 have Hcf:=Lib.hid hcf
 clear H E HK hS hcf
 go_enter Tryz.func90,Tryz.ntmps90
 go_wp2_with fail
 refine Hcall.out.mono ?_
 rintro e w2 ⟨rfl,rfl⟩
 go_wp2
 go_ret
 exact sop_bad 4 Hcf.out (by omega) rfl Hq.out.any
theorem sop_drop_u(E:ErrsC w a)(HK:KindsW w)(hS:StAt w b ⟨d,true,wt,true⟩) :
  Calls Tryz.prog 90 #[.pointer (some ⟨b,0,none⟩),.agg #[.string ⟨#[100,114,111,112]⟩,.int .i64 0]] w (SopPost a ⟨d,true,wt,true⟩ (kDrop,0) b w):=by
 obtain ⟨gk,off,cap,H⟩:=sop_pre ⟨#[100,114,111,112]⟩ 0 E HK hS (by decide +kernel)
 obtain ⟨q0,h0,h1,h2,h3,f0,f1,f2,f3,v1,v2,v4,v7,HS1,Hq,Hcall,hbz⟩:=H _ rfl
 have hcf:cfOp ⟨d,true,wt,true⟩ (kDrop,0)=(0,⟨d,false,wt,true⟩):=by unfold cfOp;simp[kM,kU]
 obtain ⟨e0,e1,e2,e3,e4,e5,e6,e7,e8⟩:=kEq ⟨#[100,114,111,112]⟩ false false false false false false false true false (by decide +kernel)
 have Hcf:=Lib.hid hcf
 clear H E HK hS hcf
 go_enter Tryz.func90,Tryz.ntmps90
 go_wp2_with fail
 refine Hcall.out.mono ?_
 rintro e w2 ⟨rfl,rfl⟩
 go_wp2
 go_ret
 refine sop_good Hcf.out ?_ (((show Qh.Mod (fun k=>k=b) w _ from Hq.out.any).setCell (fun _=>rfl) _).setCell (fun _=>rfl) _)
 unfold StAt
 rw[Qh.heap_setCell_same (Qh.heap_setCell_same (HS1.out) 1 _) 3 _];rfl
theorem sop_later_r(E:ErrsC w a)(HK:KindsW w)(hS:StAt w b ⟨d,false,wt,u⟩) :
  Calls Tryz.prog 90 #[.pointer (some ⟨b,0,none⟩),.agg #[.string ⟨#[108,97,116,101,114]⟩,.int .i64 0]] w (SopPost a ⟨d,false,wt,u⟩ (kLater,0) b w):=by
 obtain ⟨gk,off,cap,H⟩:=sop_pre ⟨#[108,97,116,101,114]⟩ 0 E HK hS (by decide +kernel)
 obtain ⟨q0,h0,h1,h2,h3,f0,f1,f2,f3,v1,v2,v4,v7,HS1,Hq,Hcall,hbz⟩:=H _ rfl
 have hcf:cfOp ⟨d,false,wt,u⟩ (kLater,0)=(5,⟨d,false,wt,u⟩):=by unfold cfOp;simp[kM,kU]
 obtain ⟨e0,e1,e2,e3,e4,e5,e6,e7,e8⟩:=kEq ⟨#[108,97,116,101,114]⟩ false false false false false false false false true (by decide +kernel)
 have Hcf:=Lib.hid hcf
 clear H E HK hS hcf
 go_enter Tryz.func90,Tryz.ntmps90
 go_wp2_with fail
 refine Hcall.out.mono ?_
 rintro e w2 ⟨rfl,rfl⟩
 go_wp2
 go_ret
 exact sop_bad 4 Hcf.out (by omega) rfl Hq.out.any
theorem sop_later_u(E:ErrsC w a)(HK:KindsW w)(hS:StAt w b ⟨d,true,wt,true⟩) :
  Calls Tryz.prog 90 #[.pointer (some ⟨b,0,none⟩),.agg #[.string ⟨#[108,97,116,101,114]⟩,.int .i64 0]] w (SopPost a ⟨d,true,wt,true⟩ (kLater,0) b w):=by
 obtain ⟨gk,off,cap,H⟩:=sop_pre ⟨#[108,97,116,101,114]⟩ 0 E HK hS (by decide +kernel)
 obtain ⟨q0,h0,h1,h2,h3,f0,f1,f2,f3,v1,v2,v4,v7,HS1,Hq,Hcall,hbz⟩:=H _ rfl
 have hcf:cfOp ⟨d,true,wt,true⟩ (kLater,0)=(0,⟨d,false,wt,true⟩):=by unfold cfOp;simp[kM,kU]
 obtain ⟨e0,e1,e2,e3,e4,e5,e6,e7,e8⟩:=kEq ⟨#[108,97,116,101,114]⟩ false false false false false false false false true (by decide +kernel)
 have Hcf:=Lib.hid hcf
 clear H E HK hS hcf
 go_enter Tryz.func90,Tryz.ntmps90
 go_wp2_with fail
 refine Hcall.out.mono ?_
 rintro e w2 ⟨rfl,rfl⟩
 go_wp2
 go_ret
 refine sop_good Hcf.out ?_ (((show Qh.Mod (fun k=>k=b) w _ from Hq.out.any).setCell (fun _=>rfl) _).setCell (fun _=>rfl) _)
 unfold StAt
 rw[Qh.heap_setCell_same (Qh.heap_setCell_same (HS1.out) 1 _) 3 _];rfl
theorem sop_drop_w(E:ErrsC w a)(HK:KindsW w)(hS:StAt w b ⟨d,true,true,false⟩) :
  Calls Tryz.prog 90 #[.pointer (some ⟨b,0,none⟩),.agg #[.string ⟨#[100,114,111,112]⟩,.int .i64 0]] w (SopPost a ⟨d,true,true,false⟩ (kDrop,0) b w):=by
 obtain ⟨gk,off,cap,H⟩:=sop_pre ⟨#[100,114,111,112]⟩ 0 E HK hS (by decide +kernel)
 obtain ⟨q0,h0,h1,h2,h3,f0,f1,f2,f3,v1,v2,v4,v7,HS1,Hq,Hcall,hbz⟩:=H _ rfl
 have hcf:cfOp ⟨d,true,true,false⟩ (kDrop,0)=(0,⟨d,false,true,false⟩):=by unfold cfOp;simp[kM,kU]
 obtain ⟨e0,e1,e2,e3,e4,e5,e6,e7,e8⟩:=kEq ⟨#[100,114,111,112]⟩ false false false false false false false true false (by decide +kernel)
 have Hcf:=Lib.hid hcf
 clear H E HK hS hcf
 go_enter Tryz.func90,Tryz.ntmps90
 go_wp2_with fail
 refine Hcall.out.mono ?_
 rintro e w2 ⟨rfl,rfl⟩
 go_wp2
 go_ret
 refine sop_good Hcf.out ?_ (((show Qh.Mod (fun k=>k=b) w _ from Hq.out.any).setCell (fun _=>rfl) _).setCell (fun _=>rfl) _)
 unfold StAt
 rw[Qh.heap_setCell_same (Qh.heap_setCell_same (HS1.out) 1 _) 3 _];rfl
theorem sop_drop_f(E:ErrsC w a)(HK:KindsW w)(hS:StAt w b ⟨d,true,false,false⟩) :
  Calls Tryz.prog 90 #[.pointer (some ⟨b,0,none⟩),.agg #[.string ⟨#[100,114,111,112]⟩,.int .i64 0]] w (SopPost a ⟨d,true,false,false⟩ (kDrop,0) b w):=by
 obtain ⟨gk,off,cap,H⟩:=sop_pre ⟨#[100,114,111,112]⟩ 0 E HK hS (by decide +kernel)
 obtain ⟨q0,h0,h1,h2,h3,f0,f1,f2,f3,v1,v2,v4,v7,HS1,Hq,Hcall,hbz⟩:=H _ rfl
 have hcf:cfOp ⟨d,true,false,false⟩ (kDrop,0)=(0,⟨d,false,false,true⟩):=by unfold cfOp;simp[kM,kU]
 obtain ⟨e0,e1,e2,e3,e4,e5,e6,e7,e8⟩:=kEq ⟨#[100,114,111,112]⟩ false false false false false false false true false (by decide +kernel)
 have Hcf:=Lib.hid hcf
 clear H E HK hS hcf
 go_enter Tryz.func90,Tryz.ntmps90
 go_wp2_with fail
 refine Hcall.out.mono ?_
 rintro e w2 ⟨rfl,rfl⟩
 go_wp2
 go_ret
 refine sop_good Hcf.out ?_ (((show Qh.Mod (fun k=>k=b) w _ from Hq.out.any).setCell (fun _=>rfl) _).setCell (fun _=>rfl) _)
 unfold StAt
 rw[Qh.heap_setCell_same (Qh.heap_setCell_same (HS1.out) 1 _) 3 _];rfl
theorem sop_later_f(E:ErrsC w a)(HK:KindsW w)(hS:StAt w b ⟨d,true,wt,false⟩) :
  Calls Tryz.prog 90 #[.pointer (some ⟨b,0,none⟩),.agg #[.string ⟨#[108,97,116,101,114]⟩,.int .i64 0]] w (SopPost a ⟨d,true,wt,false⟩ (kLater,0) b w):=by
 obtain ⟨gk,off,cap,H⟩:=sop_pre ⟨#[108,97,116,101,114]⟩ 0 E HK hS (by decide +kernel)
 obtain ⟨q0,h0,h1,h2,h3,f0,f1,f2,f3,v1,v2,v4,v7,HS1,Hq,Hcall,hbz⟩:=H _ rfl
 have hcf:cfOp ⟨d,true,wt,false⟩ (kLater,0)=(0,⟨d,false,wt,false⟩):=by unfold cfOp;simp[kM,kU]
 obtain ⟨e0,e1,e2,e3,e4,e5,e6,e7,e8⟩:=kEq ⟨#[108,97,116,101,114]⟩ false false false false false false false false true (by decide +kernel)
 have Hcf:=Lib.hid hcf
 clear H E HK hS hcf
 go_enter Tryz.func90,Tryz.ntmps90
 go_wp2_with fail
 refine Hcall.out.mono ?_
 rintro e w2 ⟨rfl,rfl⟩
 go_wp2
 go_ret
 refine sop_good Hcf.out ?_ (((show Qh.Mod (fun k=>k=b) w _ from Hq.out.any).setCell (fun _=>rfl) _).setCell (fun _=>rfl) _)
 unfold StAt
 rw[Qh.heap_setCell_same (Qh.heap_setCell_same (HS1.out) 1 _) 3 _];rfl
end
section
open Go.RowKit Qs Qh
variable {a:Nat→Addr}{w w':World}{b d:Nat}{r wt u:Bool}{n:Int}{s s':CSt}{x:ROp}
theorem sop_none(E:ErrsC w a)(HK:KindsW w)(hS:StAt w b s)(k:ByteArray)(hk:memK kindsC k=false) :
  Calls Tryz.prog 90 #[.pointer (some ⟨b,0,none⟩),.agg #[.string k,.int .i64 n]] w (SopPost a s (k,n) b w):=by
 have hq:=(Mod.refl noF w).alloc (.cells #[.string k,.int .i64 n] 88)
 have hcf:cfOp s (k,n)=(3,s):=by
  unfold cfOp
  simp[hk]
 have E1:=E.keep hq
 obtain ⟨gk,off,cap,q0,qx⟩:=HK.keep hq
 have hcall:=containsK2 (w.alloc (.cells #[.string k,.int .i64 n] 88)) gk off cap kindsC k qx (by decide)
 rw[hk]at hcall
 have hl9:kindsC.length=9:=rfl
 rw[hl9]at hcall
 have v2:=E1.v2
 have Hq:=Lib.hid hq
 have Hcall:=Lib.hid hcall
 have Hcf:=Lib.hid hcf
 clear E HK hS hq hcf E1 qx hcall hl9 hk
 go_enter Tryz.func90,Tryz.ntmps90
 go_wp2_with fail
 refine Hcall.out.mono ?_
 rintro e w2 ⟨rfl,rfl⟩
 go_wp2
 go_ret
 exact sop_bad 2 Hcf.out (by omega) rfl Hq.out.any
theorem kinds_cases{k:ByteArray}(h:memK kindsC k=true):k=kEnter∨k=kLeave∨k=kRest∨k=kWait∨k=kRead∨k=kPut∨k=kDrop∨k=kLater∨k=kFlush:=by
 have:=memK_iff.1 h
 simpa[kindsC,kEnter,kLeave,kRest,kWait,kRead,kPut,kDrop,kLater,kFlush]using this
theorem sop_any(E:ErrsC w a)(HK:KindsW w)(hS:StAt w b s)(hd:s.d≤1000)(x:ROp) :
  Calls Tryz.prog 90 #[.pointer (some ⟨b,0,none⟩),.agg #[.string x.1,.int .i64 x.2]] w (SopPost a s x b w):=by
 obtain ⟨k,n⟩:=x
 cases hk:memK kindsC k with
 |false=>exact sop_none E HK hS k hk
 |true=>
  obtain ⟨d,r,wt,u⟩:=s
  simp only at hd
  have hdd:d=0∨1≤d:=by omega
  rcases kinds_cases hk with rfl|rfl|rfl|rfl|rfl|rfl|rfl|rfl|rfl
  ·by_cases hn:n=0
   ·subst hn;exact sop_enter E HK hd hS
   ·exact sop_enter_n E HK hn hS
  ·by_cases hn:n=0
   ·subst hn
    rcases hdd with rfl|h
    ·exact sop_leave_0 E HK hS
    ·exact sop_leave E HK h hd hS
   ·exact sop_leave_n E HK hn hS
  ·by_cases hn:n=0
   ·subst hn
    rcases hdd with rfl|h
    ·cases wt
     ·exact sop_rest_f E HK hS
     ·exact sop_rest_t E HK hS
    ·exact sop_rest_d E HK h hS
   ·exact sop_rest_n E HK hn hS
  ·by_cases hn:n=0
   ·subst hn
    rcases hdd with rfl|h
    ·cases wt
     ·exact sop_wait_f E HK hS
     ·exact sop_wait_t E HK hS
    ·exact sop_wait_d E HK h hS
   ·exact sop_wait_n E HK hn hS
  ·by_cases hn:n=0
   ·subst hn
    rcases hdd with rfl|h
    ·exact sop_read_0 E HK hS
    ·exact sop_read E HK h hS
   ·exact sop_read_n E HK hn hS
  ·by_cases hlo:n<1
   ·exact sop_put_lo E HK hlo hS
   ·by_cases hhi:1000<n
    ·exact sop_put_hi E HK hhi hS
    ·rcases hdd with rfl|h
     ·cases r
      ·exact sop_put E HK (by omega) (by omega) hS
      ·exact sop_put_r E HK (by omega) (by omega) hS
     ·exact sop_put_d E HK (by omega) (by omega) h hS
  ·by_cases hn:n=0
   ·subst hn
    cases r
    ·exact sop_drop_r E HK hS
    ·cases u
     ·cases wt
      ·exact sop_drop_f E HK hS
      ·exact sop_drop_w E HK hS
     ·exact sop_drop_u E HK hS
   ·exact sop_drop_n E HK hn hS
  ·by_cases hn:n=0
   ·subst hn
    cases r
    ·exact sop_later_r E HK hS
    ·cases u
     ·exact sop_later_f E HK hS
     ·exact sop_later_u E HK hS
   ·exact sop_later_n E HK hn hS
  ·by_cases hn:n=0
   ·subst hn
    rcases hdd with rfl|h
    ·cases wt
     ·exact sop_flush_f E HK hS
     ·exact sop_flush_t E HK hS
    ·exact sop_flush_d E HK h hS
   ·exact sop_flush_n E HK hn hS
end
section
open Go.RowKit Qs Qh
variable {N:Nat}{w w':World}{v u:Value}{ll:List (List ROp)}{l:List ROp}{a:Nat→Addr}
theorem longOpC(w:World)(a:Option Addr)(n c:Nat)(hn:n≤maxLen):Calls Tryz.prog 89 #[.slice a n c] w fun e w'=>e=.returned (.bool (decide (20<n)))∧w'=w:=by
 by_cases h:20<n
 ·have d:decide ((20:Int)<(n:Int))=true:=by simp;omega
  have d2:decide (20<n)=true:=by simpa using h
  rw[d2]
  go_enter Tryz.func89,Tryz.ntmps89
  go_wp2
  go_ret
  exact ⟨rfl,rfl⟩
 ·have d:decide ((20:Int)<(n:Int))=false:=by simp;omega
  have d2:decide (20<n)=false:=by simpa using h
  rw[d2]
  go_enter Tryz.func89,Tryz.ntmps89
  go_wp2
  go_ret
  exact ⟨rfl,rfl⟩
theorem indexLongC(H:RIn N w v ll)(hrow:∀l∈ll,l.length≤30)(hl:ll.length≤1000) :
  Calls Tryz.prog 92 #[v,.func (.func 89) #[] #[]] w (IdlPost ll w):=by
 obtain ⟨a,c,rfl,hx⟩:=H
 have Hx:=Lib.hid hx
 have Hrow:=Lib.hid hrow
 clear hx hrow
 go_enter Tryz.func92,Tryz.ntmps92
 go_wp2
 go_loop [8] (fun i=>∃k:Nat,k≤ll.length∧i=.int .i64 k∧∀(j:Nat) y,j<k→ll[j]?=some y→y.length≤20) (fun i=>ll.length - (intOf i).toNat)
 case atStart=>exact ⟨0,Nat.zero_le _,rfl,fun j y h=>by omega⟩
 case round=>
  obtain ⟨k,hk,rfl,hall⟩:=hrel
  have Hall:=Lib.hid hall
  clear hall
  by_cases hlt:k<ll.length
  ·have hd:decide ((k:Int)<(ll.length:Int))=true:=by simp;omega
   have hki:(k:Int)<(ll.length:Int):=by omega
   obtain ⟨l,hl⟩:∃l,ll[k]?=some l:=⟨_,List.getElem?_eq_getElem hlt⟩
   obtain ⟨b,off,u,rfl,hb,hc,⟨ua,uc,rfl,-⟩⟩:=Hx.out k l hl
   have hmem:=List.mem_of_getElem? hl
   have hcall:=longOpC w ua l.length uc (by have:=Hrow.out l hmem;unfold maxLen;omega)
   have Hl:=Lib.hid hl
   have Hmem:=Lib.hid hmem
   by_cases h20:20<l.length
   ·rw[show decide (20<l.length)=true by simpa using h20]at hcall
    have Hcall:=Lib.hid hcall
    clear hcall hl hmem
    go_wp2_with fail
    refine Hcall.out.mono ?_
    rintro e w' ⟨rfl,rfl⟩
    go_wp2
    go_ret
    exact ⟨_,rfl,rfl,fun h=>by have:=h l Hmem.out;omega,fun _=>by omega⟩
   ·rw[show decide (20<l.length)=false by simpa using h20]at hcall
    have Hcall:=Lib.hid hcall
    clear hcall hl hmem
    go_wp2_with fail
    refine Hcall.out.mono ?_
    rintro e w' ⟨rfl,rfl⟩
    go_wp2
    go_round
    case rel=>
     refine ⟨k+1,by omega,by go_num,fun j y hj hy=>?_⟩
     by_cases e:j=k
     ·subst e
      rw[Hl.out]at hy;cases hy;omega
     ·exact Hall.out j y (by omega) hy
    case measure=>simp[intOf];omega
  ·have hd:decide ((k:Int)<(ll.length:Int))=false:=by simp;omega
   have hnone:∀l∈ll,l.length≤20:=fun l hl=>by
    obtain ⟨i,hi⟩:=List.getElem?_of_mem hl
    exact Hall.out i l (by have:=(List.getElem?_eq_some_iff.1 hi).1;omega) hi
   go_wp2
   go_ret
   exact ⟨-1,rfl,rfl,fun _=>rfl,fun h=>absurd hnone h⟩
theorem containsLongC(H:RIn N w v ll)(hrow:∀l∈ll,l.length≤30)(hl:ll.length≤1000)(b:Bool)(hb:b=true↔¬∀l∈ll,l.length≤20) :
  Calls Tryz.prog 66 #[v,.func (.func 89) #[] #[]] w fun e w'=>e=.returned (.bool b)∧w'=w:=by
 have Hcall:=Lib.hid (indexLongC H hrow hl)
 clear H hrow
 cases b with
 |true=>
  go_enter Tryz.func66,Tryz.ntmps66
  go_wp2_with fail
  refine Hcall.out.mono ?_
  rintro e w' ⟨n,rfl,rfl,h1,h2⟩
  have d:decide ((0:Int)≤n)=true:=by simpa using h2 (by simpa using hb)
  clear h1 h2 hb
  go_wp2
  go_ret
  exact ⟨rfl,rfl⟩
 |false=>
  go_enter Tryz.func66,Tryz.ntmps66
  go_wp2_with fail
  refine Hcall.out.mono ?_
  rintro e w' ⟨n,rfl,rfl,h1,h2⟩
  obtain rfl:=h1 (by
   by_cases h:∀l∈ll,l.length≤20
   ·exact h
   ·exact absurd (hb.2 h) (by simp))
  clear h1 h2 hb
  go_wp2
  go_ret
  exact ⟨rfl,rfl⟩
theorem cfOp_d(s:CSt)(x:ROp):(cfOp s x).2.d≤s.d+1:=by
 unfold cfOp
 repeat' split
 all_goals simp <;> omega
theorem ccheck_many(E:ErrsC w a)(H:RIn N w v ll)(hlen:ll.length≤10)(hrow:∀l∈ll,l.length≤30)(hm:manyB ll=false) :
  Calls Tryz.prog 62 #[v] w fun e w'=>∃ev,e=.returned (.tuple #[.bool false,ev])∧ErrIs a w' ev 2 (-1)∧Mod noF w w':=by
 have hv:=E.v1
 have fin:∀w',ErrIs a w' (errV a 1) 2 (-1):=fun w'=>.inr (.inl ⟨1,by omega,rfl,rfl,rfl⟩)
 unfold errV at fin
 have Fin:=Lib.hid fin
 clear fin E
 by_cases h1:ll.length<1
 ·obtain ⟨a',c,rfl,hx⟩:=H
  have d1:decide ((ll.length:Int)<1)=true:=by simp;omega
  clear hx
  go_enter Tryz.func62,Tryz.ntmps62
  go_wp2
  go_region
  go_wp2
  go_ret2
  exact ⟨_,rfl,Fin.out _,by repeat (first|exact Mod.refl _ _|refine Mod.drew ?_|refine Mod.drewN ?_ _)⟩
 have d1:decide ((ll.length:Int)<1)=false:=by simp;omega
 by_cases h6:6<ll.length
 ·obtain ⟨a',c,rfl,hx⟩:=H
  have d2:decide ((6:Int)<(ll.length:Int))=true:=by simp;omega
  clear hx
  go_enter Tryz.func62,Tryz.ntmps62
  go_wp2
  go_region
  go_wp2
  go_ret2
  exact ⟨_,rfl,Fin.out _,by repeat (first|exact Mod.refl _ _|refine Mod.drew ?_|refine Mod.drewN ?_ _)⟩
 have d2:decide ((6:Int)<(ll.length:Int))=false:=by simp;omega
 have hcall:=containsLongC H hrow (by omega) true ⟨fun _=>by
  rcases manyB_false hm with h|h|h
  ·omega
  ·omega
  ·exact h,fun _=>rfl⟩
 have Hcall:=Lib.hid hcall
 obtain ⟨a',c,rfl,hx⟩:=H
 clear hx hcall hrow hm
 go_enter Tryz.func62,Tryz.ntmps62
 go_wp2_with fail
 refine Hcall.out.mono ?_
 rintro e w' ⟨rfl,rfl⟩
 go_wp2
 go_region
 go_wp2
 go_ret2
 exact ⟨_,rfl,Fin.out _,by repeat (first|exact Mod.refl _ _|refine Mod.drew ?_|refine Mod.drewN ?_ _)⟩
end
section
open Go.RowKit Qs Qh
variable {N:Nat}{w w':World}{v u:Value}{ll:List (List ROp)}{l:List ROp}{a:Nat→Addr}
theorem cSafe_row{l:List ROp}{s:CSt}(h:cRun c0 l=(0,s)):cSafe l = !s.u:=by unfold cSafe;rw[h]
theorem cRowF_fault{l:List ROp}{q:Nat}{x:ROp}{s:CSt}(hx:l[q]?=some x)(h:cRun c0 (l.take q)=(0,s))(hf:(cfOp s x).1≠0):cRowF l=some (cfOp s x).1:=by
 have:=cRun_fault l q c0 hx h hf
 unfold cRowF
 rw[this,if_pos hf]
theorem cRowF_deep{l:List ROp}{s:CSt}(h:cRun c0 l=(0,s))(hd:s.d≠0):cRowF l=some 8:=by
 unfold cRowF
 rw[h]
 simp[hd]
theorem cRowF_fine{l:List ROp}{s:CSt}(h:cRun c0 l=(0,s))(hd:s.d=0):cRowF l=none:=by
 unfold cRowF
 rw[h]
 simp[hd]
theorem ccheck_ok(E:ErrsC w a)(HK:KindsW w)(H:RIn N w v ll)(hlen:ll.length≤10)(hrow:∀l∈ll,l.length≤30)(hm:manyB ll=true) :
  Calls Tryz.prog 62 #[v] w fun e w'=>∃ev,e=.returned (.tuple #[.bool (decide ((allR cRowF 0 ll).1=0)&&ll.all cSafe),ev])∧ErrIs a w' ev (allR cRowF 0 ll).1 (allR cRowF 0 ll).2∧Mod noF w w':=by
 obtain ⟨hl1,hl6,h20⟩:=manyB_iff.1 hm
 have hcall:=containsLongC H hrow (by omega) false (by constructor;(intro h;cases h);exact fun h=>absurd h20 h)
 have HH:=Lib.hid H
 obtain ⟨a',c,rfl,hx⟩:=H
 have d1:decide ((ll.length:Int)<1)=false:=by simp;omega
 have d2:decide ((6:Int)<(ll.length:Int))=false:=by simp;omega
 obtain ⟨rc,ra,hres0⟩:∃rc ra,allR cRowF 0 ll=(rc,ra):=⟨_,_,rfl⟩
 rw[hres0]
 have Hres0:=Lib.hid hres0
 simp only
 have Hx:=Lib.hid hx
 have H20:=Lib.hid h20
 have HKW:=Lib.hid HK
 have HE:=Lib.hid E
 have Hcall:=Lib.hid hcall
 obtain ⟨res,hres⟩:∃res,(decide (rc=0)&&ll.all cSafe)=res:=⟨_,rfl⟩
 rw[hres]
 have Hres:=Lib.hid hres
 clear hx h20 hcall hres0 E hrow hm HK hres
 go_enter Tryz.func62,Tryz.ntmps62
 go_wp2_with fail
 refine Hcall.out.mono ?_
 rintro e w' ⟨rfl,rfl⟩
 go_wp2
 go_loopw [2,25] (fun b i wr=>∃k:Nat,k≤ll.length∧i=.int .i64 k∧b=.bool ((ll.take k).all cSafe)∧Mod noF w' wr∧∀(j:Nat) y,j<k→ll[j]?=some y→cRowF y=none) (fun _ i _=>ll.length - (intOf i).toNat)
 case atStart=>exact ⟨0,Nat.zero_le _,rfl,rfl,Mod.refl _ _,fun j y h=>by omega⟩
 case round=>
  generalize wr=w2 at *
  obtain ⟨k,hk,rfl,rfl,hm,hall⟩:=hrel
  have Hall:=Lib.hid hall
  clear hall
  generalize hsf:(ll.take k).all cSafe=sf at *
  have Hsf:=Lib.hid hsf
  clear hsf
  by_cases hlt:k<ll.length
  ·have hd:decide ((k:Int)<(ll.length:Int))=true:=by simp;omega
   have hki:(k:Int)<(ll.length:Int):=by omega
   obtain ⟨l,hl⟩:∃l,ll[k]?=some l:=⟨_,List.getElem?_eq_getElem hlt⟩
   obtain ⟨b,off,u,rfl,hb,hc,hrow⟩:=Hx.out k l hl
   have hc2:=hm.cell hc (fun e=>e)
   obtain ⟨ua,uc,rfl,hxx⟩:=hrow.keep hm (fun _ _ e=>e)
   have Hxx:=Lib.hid hxx
   have Hm:=Lib.hid hm
   have h20l:=H20.out l (List.mem_of_getElem? hl)
   have Hl:=Lib.hid hl
   clear hxx hrow hc hl hm
   go_wp2
   go_name_world wA hwA
   have hmA:Mod noF w2 wA:=by rw[←hwA];exact (Mod.refl noF w2).alloc _
   have hSA:StAt wA w2.heap.size c0:=by rw[←hwA];exact heap_alloc_new w2 _
   have HmA:=Lib.hid hmA
   have HSA:=Lib.hid hSA
   have hlB:w2.heap.size<wA.heap.size:=lt_of_block hSA
   clear hmA hSA hwA
   go_loopw [2,34] (fun b i wq=>∃q:Nat,q≤l.length∧i=.int .i64 q∧b=.bool sf∧∃s,cRun c0 (l.take q)=(0,s)∧StAt wq w2.heap.size s∧s.d≤q∧Mod (fun x=>x=w2.heap.size) wA wq) (fun _ i _=>l.length - (intOf i).toNat)
   case atStart=>exact ⟨0,Nat.zero_le _,rfl,rfl,c0,rfl,HSA.out,Nat.le_refl _,Mod.refl _ _⟩
   case round=>
    generalize wr=w3 at *
    obtain ⟨q,hq,rfl,rfl,s,hrun,hS,hsd,hm2⟩:=hrel
    have Hrun:=Lib.hid hrun
    have HS:=Lib.hid hS
    have hmw:Mod noF w' w3:=(Hm.out.trans0 HmA.out).trans hm2 (fun x hx e=>by have:=Hm.out.size;omega)
    have Hmw:=Lib.hid hmw
    clear hrun
    by_cases hlq:q<l.length
    ·have hd2:decide ((q:Int)<(l.length:Int))=true:=by simp;omega
     have hqi:(q:Int)<(l.length:Int):=by omega
     obtain ⟨x,hxl⟩:∃x,l[q]?=some x:=⟨_,List.getElem?_eq_getElem hlq⟩
     obtain ⟨ub,uoff,rfl,hub,h0,h1⟩:=Hxx.out q x hxl
     have hmm:Mod noF w2 w3:=HmA.out.trans hm2 (fun x hx e=>by omega)
     have h0:=hmm.cell h0 (fun e=>e)
     have h1:=hmm.cell h1 (fun e=>e)
     have Hm2:=Lib.hid hm2
     have Hxl:=Lib.hid hxl
     have hq4:=(Mod.refl noF w3).alloc (.cells #[.string x.1,.int .i64 x.2] 88)
     have hcal:=sop_any ((HE.out.keep hmw).keep hq4) ((HKW.out.keep hmw).keep hq4) (hq4.heap hS (fun e=>e)) (by omega) x
     have Hcal:=Lib.hid hcal
     have hlb3:=lt_of_block hS
     clear hxl hm2 hS hmw hmm hq4 hcal
     obtain ⟨xs,xn⟩:=x
     simp only at h0 h1
     go_wp2_with fail
     refine Hcal.out.mono ?_
     rintro e w5 ⟨ev,rfl,hz,hnz,hm5⟩
     have hm35:Mod (fun x=>x=w2.heap.size) w3 w5:=((Mod.refl noF w3).alloc (.cells #[.string xs,.int .i64 xn] 88)).any.trans hm5 (fun x _ e=>e)
     have hmw5:Mod noF w' w5:=Hmw.out.trans hm35 (fun x hx e=>by have:=Hm.out.size;omega)
     by_cases hcf:(cfOp s (xs,xn)).1=0
     ·obtain ⟨rfl,hS5⟩:=hz hcf
      have hts:=cRun_take_succ l q c0 Hxl.out Hrun.out
      rw[if_neg (by rw[hcf];exact fun h=>h rfl)]at hts
      have hdd:=cfOp_d s (xs,xn)
      have Hts:=Lib.hid hts
      have HS5:=Lib.hid hS5
      have Hm35:=Lib.hid (Hm2.out.trans hm35 (fun x _ e=>e))
      clear hz hnz hm5 hm35 hmw5 hcf hts hS5
      go_wp2
      go_roundw
      case rel=>exact ⟨q+1,by omega,by go_num,rfl,_,Hts.out,HS5.out,by omega,Hm35.out⟩
      case measure=>simp[intOf];omega
     ·obtain ⟨i,hi9,hci,rfl⟩:=hnz hcf
      have hrF:=cRowF_fault Hxl.out Hrun.out hcf
      rw[hci]at hrF
      have hre:=allR_at ll 0 k l _ Hl.out Hall.out hrF
      rw[Nat.zero_add]at hre
      obtain ⟨rfl,rfl⟩:=Prod.mk.inj (Hres0.out.symm.trans hre)
      have hrs:res=false:=by rw[←Hres.out];simp;omega
      subst hrs
      have Hmw5:=Lib.hid hmw5
      unfold errV
      clear hz hnz hm5 hm35 hmw5 hcf hci hrF hre
      go_wp2
      go_ret2
      exact ⟨_,rfl,.inr (.inr ⟨i,_,hi9,rfl,rfl,by simp,by simp,by simp[errV]⟩),(Hmw5.out).alloc _⟩
    ·have hd2:decide ((q:Int)<(l.length:Int))=false:=by simp;omega
     obtain rfl:q=l.length:=by omega
     have hrun:=Hrun.out
     rw[List.take_length]at hrun
     have s0:=cell_of_heap hS 0
     have s3:=cell_of_heap hS 3
     replace s0:w3.cell? ⟨w2.heap.size,0,none⟩=some (.int .i64 (s.d:Int)):=s0
     replace s3:w3.cell? ⟨w2.heap.size,3,none⟩=some (.bool s.u):=s3
     have v7:=(HE.out.keep hmw).v7
     by_cases hdp:s.d=0
     ·have hrF:=cRowF_fine hrun hdp
      have hsr:=cSafe_row hrun
      rw[hdp]at s0
      have d3:decide ((0:Int)<((0:Nat):Int))=false:=by decide
      have HrF:=Lib.hid hrF
      have Hsr:=Lib.hid hsr
      have htk:ll.take (k+1)=ll.take k++[l]:=by rw[List.take_add_one,Hl.out];rfl
      have Htk:=Lib.hid htk
      clear hrun hS hm2 hdp hrF hsr hmw htk
      cases hsu:s.u with
      |true=>
       rw[hsu]at s3
       have hnx:(ll.take (k+1)).all cSafe=false:=by rw[Htk.out,List.all_append];simp[Hsr.out,hsu]
       have Hnx:=Lib.hid hnx
       cases sf with
       |true=>
        clear hnx
        go_wp2
        go_roundw
        case rel=>
         refine ⟨k+1,by omega,by go_num,by rw[Hnx.out],Hmw.out,fun j y hj hy=>?_⟩
         by_cases e:j=k
         ·subst e
          rw[Hl.out]at hy;cases hy;exact HrF.out
         ·exact Hall.out j y (by omega) hy
        case measure=>simp[intOf];omega
       |false=>
        clear hnx
        go_wp2
        go_roundw
        case rel=>
         refine ⟨k+1,by omega,by go_num,by rw[Hnx.out],Hmw.out,fun j y hj hy=>?_⟩
         by_cases e:j=k
         ·subst e
          rw[Hl.out]at hy;cases hy;exact HrF.out
         ·exact Hall.out j y (by omega) hy
        case measure=>simp[intOf];omega
      |false=>
       rw[hsu]at s3
       have hnx:(ll.take (k+1)).all cSafe=sf:=by rw[Htk.out,List.all_append,Hsf.out];simp[Hsr.out,hsu]
       have Hnx:=Lib.hid hnx
       cases sf with
       |true=>
        clear hnx
        go_wp2
        go_roundw
        case rel=>
         refine ⟨k+1,by omega,by go_num,by rw[Hnx.out],Hmw.out,fun j y hj hy=>?_⟩
         by_cases e:j=k
         ·subst e
          rw[Hl.out]at hy;cases hy;exact HrF.out
         ·exact Hall.out j y (by omega) hy
        case measure=>simp[intOf];omega
       |false=>
        clear hnx
        go_wp2
        go_roundw
        case rel=>
         refine ⟨k+1,by omega,by go_num,by rw[Hnx.out],Hmw.out,fun j y hj hy=>?_⟩
         by_cases e:j=k
         ·subst e
          rw[Hl.out]at hy;cases hy;exact HrF.out
         ·exact Hall.out j y (by omega) hy
        case measure=>simp[intOf];omega
     ·obtain ⟨z,hz⟩:∃z:Int,(s.d:Int)=z:=⟨_,rfl⟩
      rw[hz]at s0
      have d3:decide (0<z)=true:=by simp;omega
      clear hz
      have hrF:=cRowF_deep hrun hdp
      have hre:=allR_at ll 0 k l _ Hl.out Hall.out hrF
      rw[Nat.zero_add]at hre
      obtain ⟨rfl,rfl⟩:=Prod.mk.inj (Hres0.out.symm.trans hre)
      have hrs:res=false:=by rw[←Hres.out];simp
      subst hrs
      clear hrun hS hm2 hdp hrF hre hmw
      go_wp2
      refine wp_region_held_drew (S:=(fun W=>W.cell? ⟨7,0,none⟩=some (.iface 225 (.pointer (some (a 7)))))) (by kernel_rfl) ((Mod.refl noF _).drew.cell v7 (fun e=>e)) (fun hHeld=>?_)
      iterate 4
       first|refine tk 0 (by decide +kernel) ?_|refine tk 1 (by decide +kernel) ?_|refine tk 2 (by decide +kernel) ?_|refine tk 5 (by decide +kernel) ?_
       apply Exists.intro;apply And.intro;(rw[List.getElem?_toArray];rfl)
       apply Exists.intro;refine ⟨by assumption,fun _ _ _ h=>h,?_,?_⟩
       ·refine Or.inl ⟨by rfl,?_⟩;intro w hSw;(try dsimp only at hSw);go_simp;(try rw[if_neg (by omega)]);try with_reducible rfl
       try simp only[Act.put,List.setIfInBounds_toArray,List.set_cons_zero,List.set_cons_succ]
      refine wpAnyH_ready (rs:=[3]) (by kernel_rfl) (by simp) ?_
      refine AllReadyH.cons rfl (fun K hK=>?_) AllReadyH.nil
      go_simp
      refine Shut.out hK _ _ (((Mod.refl noF _).alloc _).cell hHeld (fun e=>e)) (fun hS4=>?_)
      try simp only[Act.put,List.setIfInBounds_toArray,List.set_cons_zero,List.set_cons_succ]
      iterate 2
       first|refine tk 4 (by decide +kernel) ?_|refine tk 6 (by decide +kernel) ?_
       apply Exists.intro;apply And.intro;(rw[List.getElem?_toArray];rfl)
       apply Exists.intro;refine ⟨by assumption,fun _ _ _ h=>h,?_,?_⟩
       ·refine Or.inl ⟨by rfl,?_⟩;intro w hSw;(try dsimp only at hSw);go_simp;(try rw[if_neg (by omega)]);try with_reducible rfl
       try simp only[Act.put,List.setIfInBounds_toArray,List.set_cons_zero,List.set_cons_succ]
      refine wpAnyH_done (by kernel_rfl) ?_ _
      go_wp2
      go_ret2
      exact ⟨_,rfl,.inr (.inr ⟨7,_,by omega,rfl,rfl,by simp,by simp,by simp[errV]⟩),by repeat (first|exact Hmw.out|refine Mod.drew ?_|refine Mod.drewN ?_ _|refine Mod.alloc ?_ _)⟩
  ·have hd:decide ((k:Int)<(ll.length:Int))=false:=by simp;omega
   have hre:=allR_none (rf:=cRowF) ll 0 fun j y hj=>Hall.out j y (by have:=(List.getElem?_eq_some_iff.1 hj).1;omega) hj
   obtain ⟨rfl,rfl⟩:=Prod.mk.inj (Hres0.out.symm.trans hre)
   have hsf:=Hsf.out
   rw[List.take_of_length_le (by omega)]at hsf
   have hrs:res=sf:=by rw[←Hres.out,hsf];simp
   subst hrs
   have Hm:=Lib.hid hm
   clear hm hre hsf
   go_wp2
   go_ret2
   exact ⟨_,rfl,.inl ⟨rfl,rfl,rfl⟩,Hm.out⟩
theorem ccheck(E:ErrsC w a)(HK:KindsW w)(H:RIn N w v ll)(hlen:ll.length≤10)(hrow:∀l∈ll,l.length≤30) :
  Calls Tryz.prog 62 #[v] w fun e w'=>∃ev,e=.returned (.tuple #[.bool (csG ll),ev])∧ErrIs a w' ev (cfG ll).1 (cfG ll).2∧Mod noF w w':=by
 unfold csG cfG
 cases hm:manyB ll with
 |false=>exact ccheck_many E H hlen hrow hm
 |true=>exact ccheck_ok E HK H hlen hrow hm
theorem cCheck(E:ErrsC w a)(HK:KindsW w)(H:RIn N w v ll)(hlen:ll.length≤10)(hrow:∀l∈ll,l.length≤30) :
  Calls Tryz.prog 37 #[v] w fun e w'=>∃ev,e=.returned ev∧ErrIs a w' ev (cfG ll).1 (cfG ll).2∧Mod noF w w':=by
 have Hcall:=Lib.hid (ccheck E HK H hlen hrow)
 generalize csG ll=sb at *
 clear E HK H hrow
 go_enter Tryz.func37,Tryz.ntmps37
 go_wp2_with fail
 refine Hcall.out.mono ?_
 rintro e w1 ⟨ev,rfl,hE,hm⟩
 have HE1:=Lib.hid hE
 have Hm:=Lib.hid hm
 clear hE hm
 go_wp2
 go_ret
 exact ⟨ev,rfl,HE1.out,Hm.out⟩
end
section
open Go.RowKit Qs Qh
def thrF(l:List ROp):Int × Bool:=match cRowF l with
 |some c=>(c,false)
 |none=>(0,cSafe l)
def isWF(x:ROp):Bool:=decide (x.1=kWait)||decide (x.1=kFlush)
def anyWF(l:List ROp)(p k:Nat):Bool:=((l.take k).drop p).any isWF
theorem anyWF_same(l:List ROp)(p:Nat):anyWF l p p=false:=by
 unfold anyWF
 rw[List.drop_eq_nil_of_le (by simp;omega)];rfl
theorem anyWF_succ{l:List ROp}{p k:Nat}{x:ROp}(h:l[k]?=some x)(hp:p≤k):anyWF l p (k+1)=(anyWF l p k||isWF x):=by
 unfold anyWF
 have hk:=(List.getElem?_eq_some_iff.1 h).1
 rw[List.take_add_one,h,List.drop_append_of_le_length (by simp;omega),List.any_append]
 simp
def WInv(l:List ROp)(q:Nat)(s:CSt)(pw:Int):Prop:=(s.r=false∧pw = -1)∨(s.r=true∧∃p:Nat,p<q∧pw=(p:Int)∧s.w=anyWF l p q)
theorem WInv.next{l:List ROp}{q:Nat}{s s':CSt}{pw:Int}{x:ROp}(h:WInv l q s pw)(hx:l[q]?=some x)(hr:s'.r=s.r)(hw:s'.w=(s.w||isWF x)):WInv l (q+1) s' pw:=by
 rcases h with ⟨h1,h2⟩|⟨h1,p,h2,h3,h4⟩
 ·exact .inl ⟨by rw[hr,h1],h2⟩
 ·exact .inr ⟨by rw[hr,h1],p,by omega,h3,by rw[hw,h4,anyWF_succ hx (by omega)]⟩
theorem WInv.put{l:List ROp}{q:Nat}{s':CSt}{x:ROp}(hx:l[q]?=some x)(hf:isWF x=false)(hr:s'.r=true)(hw:s'.w=false):WInv l (q+1) s' (q:Int):=
 .inr ⟨hr,q,by omega,rfl,by rw[hw,anyWF_succ hx (Nat.le_refl _),anyWF_same,hf];rfl⟩
theorem WInv.none{l:List ROp}{q:Nat}{s':CSt}(hr:s'.r=false):WInv l q s' (-1):=.inl ⟨hr,rfl⟩
theorem str_neL{a b:ByteArray}(h:¬a=b):(a.toList==b.toList)=false∧¬a.toList=b.toList:=by
 have h1:=str_ne h
 exact ⟨h1,fun e=>by rw[e]at h1;simp at h1⟩
theorem kNe{xs:ByteArray}(hk:memK kindsC xs=false)(k:List UInt8)(hm:memK kindsC ⟨k.toArray⟩=true):(xs.toList==k)=false∧¬xs.toList=k:=by
 have h:¬xs.toList=k:=fun e=>by
  rw[ByteArray.toList_eq]at e
  rw[show xs=⟨k.toArray⟩from ByteArray.ext (by rw[←e]),hm]at hk
  cases hk
 exact ⟨by rw[beq_eq_false_iff_ne];exact h,h⟩
theorem thr_bad{l:List ROp}{q:Nat}{x:ROp}{s s':CSt}{c ra:Int}{rb:Bool}(Hxl:Hid (l[q]?=some x))(Hrun:Hid (cRun c0 (l.take q)=(0,s)))(hcf:cfOp s x=(c,s'))(hc:c≠0)(Hres:Hid (thrF l=(ra,rb))):ra=c∧rb=false:=by
 have hrF:=cRowF_fault Hxl.out Hrun.out (by rw[hcf];exact hc)
 rw[hcf]at hrF
 have ht:thrF l=(c,false):=by unfold thrF;rw[hrF]
 rw[Hres.out]at ht
 exact Prod.mk.inj ht
variable {N:Nat}{w w':World}{v u:Value}{l:List ROp}
theorem thr_ok(H:RRow N w u l)(hlen:l.length≤20) :
  Calls Tryz.prog 57 #[u] w fun e w'=>e=.returned (.tuple #[.int .i64 (thrF l).1,.bool (thrF l).2])∧Mod noF w w':=by
 obtain ⟨ra,rb,hres⟩:∃ra rb,thrF l=(ra,rb):=⟨_,_,rfl⟩
 rw[hres]
 have Hres:=Lib.hid hres
 simp only
 clear hres
 obtain ⟨ua,uc,rfl,hxx⟩:=H
 have Hxx:=Lib.hid hxx
 clear hxx
 go_enter Tryz.func57,Tryz.ntmps57
 go_wp2
 go_loopw [4,5,6,7] (fun dv pv sv i wr=>∃(q:Nat) (s:CSt) (di pw:Int),q≤l.length∧dv=.int .i64 di∧pv=.int .i64 pw∧sv=.bool (!s.u)∧i=.int .i64 q∧cRun c0 (l.take q)=(0,s)∧di=(s.d:Int)∧s.d≤q∧WInv l q s pw∧Mod noF w wr) (fun _ _ _ i _=>l.length - (intOf i).toNat)
 case atStart=>exact ⟨0,c0,0,-1,Nat.zero_le _,rfl,rfl,rfl,rfl,rfl,rfl,Nat.le_refl _,.inl ⟨rfl,rfl⟩,Mod.refl _ _⟩
 case round=>
  generalize wr=w2 at *
  obtain ⟨q,s,di,pw,hq,rfl,rfl,rfl,rfl,hrun,hdi,hdq,hW,hm⟩:=hrel
  have Hrun:=Lib.hid hrun
  have HW:=Lib.hid hW
  have Hm:=Lib.hid hm
  clear hrun hW hm
  by_cases hlt:q<l.length
  ·have hd:decide ((q:Int)<(l.length:Int))=true:=by simp;omega
   have hqi:(q:Int)<(l.length:Int):=by omega
   obtain ⟨x,hxl⟩:∃x,l[q]?=some x:=⟨_,List.getElem?_eq_getElem hlt⟩
   obtain ⟨ub,uoff,rfl,hub,h0,h1⟩:=Hxx.out q x hxl
   have h0:=Hm.out.cell h0 (fun e=>e)
   have h1:=Hm.out.cell h1 (fun e=>e)
   have Hxl:=Lib.hid hxl
   clear hxl
   obtain ⟨xs,xn⟩:=x
   simp only at h0 h1
   cases hk:memK kindsC xs with
   |false=>
    have hcf:cfOp s (xs,xn)=(3,s):=by unfold cfOp;simp[hk]
    obtain ⟨e0,f0⟩:=kNe hk [101,110,116,101,114] (by decide +kernel)
    obtain ⟨e1,f1⟩:=kNe hk [108,101,97,118,101] (by decide +kernel)
    obtain ⟨e2,f2⟩:=kNe hk [114,101,115,116] (by decide +kernel)
    obtain ⟨e3,f3⟩:=kNe hk [119,97,105,116] (by decide +kernel)
    obtain ⟨e4,f4⟩:=kNe hk [114,101,97,100] (by decide +kernel)
    obtain ⟨e5,f5⟩:=kNe hk [112,117,116] (by decide +kernel)
    obtain ⟨e6,f6⟩:=kNe hk [100,114,111,112] (by decide +kernel)
    obtain ⟨e7,f7⟩:=kNe hk [108,97,116,101,114] (by decide +kernel)
    obtain ⟨e8,f8⟩:=kNe hk [102,108,117,115,104] (by decide +kernel)
    obtain ⟨rfl,rfl⟩:=thr_bad Hxl Hrun hcf (by simp) Hres
    clear hcf hk
    go_wp2
    go_ret2
    exact ⟨rfl,Hm.out.alloc _⟩
   |true=>
    obtain ⟨sd,sr,sw,su⟩:=s
    simp only at hdi hdq
    rcases kinds_cases hk with rfl|rfl|rfl|rfl|rfl|rfl|rfl|rfl|rfl
    ·replace h0:w2.cell? ⟨ub,uoff+q*2,none⟩=some (.string ⟨#[101,110,116,101,114]⟩):=h0
     replace Hxl:Hid (l[q]?=some (⟨#[101,110,116,101,114]⟩,xn)):=Hxl
     obtain ⟨e0,e1,e2,e3,e4,e5,e6,e7,e8⟩:=kEq ⟨#[101,110,116,101,114]⟩ true false false false false false false false false (by decide +kernel)
     by_cases hn:xn=0
     ·subst hn
      have hcf:cfOp ⟨sd,sr,sw,su⟩ (⟨#[101,110,116,101,114]⟩,0)=(0,⟨sd+1,sr,sw,su⟩):=by unfold cfOp;simp[kM,kU]
      have hnx:WInv l (q+1) ⟨sd+1,sr,sw,su⟩ pw:=HW.out.next Hxl.out rfl (by simp[isWF,kWait,kFlush])
      have Hnx:=Lib.hid hnx
      clear hnx
      have hts:=cRun_take_succ l q c0 Hxl.out Hrun.out
      rw[hcf,if_neg (by simp)]at hts
      have Hts:=Lib.hid hts
      clear hts hcf hk
      go_wp2
      go_roundw
      case rel=>exact ⟨q+1,⟨sd+1,sr,sw,su⟩,_,_,by omega,rfl,rfl,rfl,by go_num,Hts.out,(by first|omega|(simp only;omega)|(simp only;done)),(by first|omega|(simp only;omega)|(simp only;done)),Hnx.out,Hm.out.alloc _⟩
      case measure=>simp[intOf];omega
     ·have n1:(xn==0)=false:=by simpa using hn
      have n2:decide (xn=0)=false:=by simpa using hn
      have hcf:cfOp ⟨sd,sr,sw,su⟩ (⟨#[101,110,116,101,114]⟩,xn)=(3,⟨sd,sr,sw,su⟩):=by unfold cfOp;simp[kM,kU,hn]
      obtain ⟨rfl,rfl⟩:=thr_bad Hxl Hrun hcf (by simp) Hres
      clear hcf hk hdi hn
      go_wp2
      go_ret2
      exact ⟨rfl,Hm.out.alloc _⟩
    ·replace h0:w2.cell? ⟨ub,uoff+q*2,none⟩=some (.string ⟨#[108,101,97,118,101]⟩):=h0
     replace Hxl:Hid (l[q]?=some (⟨#[108,101,97,118,101]⟩,xn)):=Hxl
     obtain ⟨e0,e1,e2,e3,e4,e5,e6,e7,e8⟩:=kEq ⟨#[108,101,97,118,101]⟩ false true false false false false false false false (by decide +kernel)
     by_cases hn:xn=0
     ·subst hn
      rcases (by omega:sd=0∨1≤sd)with rfl|hs1
      ·obtain rfl:di=0:=by omega
       have hcf:cfOp ⟨0,sr,sw,su⟩ (⟨#[108,101,97,118,101]⟩,0)=(8,⟨0,sr,sw,su⟩):=by unfold cfOp;simp[kM,kU]
       obtain ⟨rfl,rfl⟩:=thr_bad Hxl Hrun hcf (by simp) Hres
       clear hcf hk hdi
       go_wp2
       go_ret2
       exact ⟨rfl,Hm.out.alloc _⟩
      ·have dd:decide (di - 1<0)=false:=by simp;omega
       have h20:0≤di∧di≤20:=by omega
       have hs0:¬sd=0:=by omega
       have hcf:cfOp ⟨sd,sr,sw,su⟩ (⟨#[108,101,97,118,101]⟩,0)=(0,⟨sd - 1,sr,sw,su⟩):=by unfold cfOp;simp[kM,kU,hs0]
       have hnx:WInv l (q+1) ⟨sd - 1,sr,sw,su⟩ pw:=HW.out.next Hxl.out rfl (by simp[isWF,kWait,kFlush])
       have Hnx:=Lib.hid hnx
       clear hnx hs0
       have hts:=cRun_take_succ l q c0 Hxl.out Hrun.out
       rw[hcf,if_neg (by simp)]at hts
       have Hts:=Lib.hid hts
       clear hts hcf hk
       go_wp2
       go_roundw
       case rel=>exact ⟨q+1,⟨sd - 1,sr,sw,su⟩,_,_,by omega,rfl,rfl,rfl,by go_num,Hts.out,(by first|omega|(simp only;omega)|(simp only;done)),(by first|omega|(simp only;omega)|(simp only;done)),Hnx.out,Hm.out.alloc _⟩
       case measure=>simp[intOf];omega
     ·have n1:(xn==0)=false:=by simpa using hn
      have n2:decide (xn=0)=false:=by simpa using hn
      have hcf:cfOp ⟨sd,sr,sw,su⟩ (⟨#[108,101,97,118,101]⟩,xn)=(3,⟨sd,sr,sw,su⟩):=by unfold cfOp;simp[kM,kU,hn]
      obtain ⟨rfl,rfl⟩:=thr_bad Hxl Hrun hcf (by simp) Hres
      clear hcf hk hdi hn
      go_wp2
      go_ret2
      exact ⟨rfl,Hm.out.alloc _⟩
    ·replace h0:w2.cell? ⟨ub,uoff+q*2,none⟩=some (.string ⟨#[114,101,115,116]⟩):=h0
     replace Hxl:Hid (l[q]?=some (⟨#[114,101,115,116]⟩,xn)):=Hxl
     obtain ⟨e0,e1,e2,e3,e4,e5,e6,e7,e8⟩:=kEq ⟨#[114,101,115,116]⟩ false false true false false false false false false (by decide +kernel)
     by_cases hn:xn=0
     ·subst hn
      rcases (by omega:sd=0∨1≤sd)with rfl|hs1
      ·obtain rfl:di=0:=by omega
       have hcf:cfOp ⟨0,sr,sw,su⟩ (⟨#[114,101,115,116]⟩,0)=(0,⟨0,sr,sw,su⟩):=by unfold cfOp;simp[kM,kU]
       have hnx:WInv l (q+1) ⟨0,sr,sw,su⟩ pw:=HW.out.next Hxl.out rfl (by simp[isWF,kWait,kFlush])
       have Hnx:=Lib.hid hnx
       clear hnx
       have hts:=cRun_take_succ l q c0 Hxl.out Hrun.out
       rw[hcf,if_neg (by simp)]at hts
       have Hts:=Lib.hid hts
       clear hts hcf hk hdi
       go_wp2
       go_roundw
       case rel=>exact ⟨q+1,⟨0,sr,sw,su⟩,_,_,by omega,rfl,rfl,rfl,by go_num,Hts.out,(by first|omega|(simp only;omega)|(simp only;done)),(by first|omega|(simp only;omega)|(simp only;done)),Hnx.out,Hm.out.alloc _⟩
       case measure=>simp[intOf];omega
      ·have dd:decide (0<di)=true:=by simp;omega
       have hs0:¬sd=0:=by omega
       have hcf:cfOp ⟨sd,sr,sw,su⟩ (⟨#[114,101,115,116]⟩,0)=(8,⟨sd,sr,sw,su⟩):=by unfold cfOp;simp[kM,kU,hs0]
       obtain ⟨rfl,rfl⟩:=thr_bad Hxl Hrun hcf (by simp) Hres
       clear hcf hk hdi hs0
       go_wp2
       go_ret2
       exact ⟨rfl,Hm.out.alloc _⟩
     ·have n1:(xn==0)=false:=by simpa using hn
      have n2:decide (xn=0)=false:=by simpa using hn
      have hcf:cfOp ⟨sd,sr,sw,su⟩ (⟨#[114,101,115,116]⟩,xn)=(3,⟨sd,sr,sw,su⟩):=by unfold cfOp;simp[kM,kU,hn]
      obtain ⟨rfl,rfl⟩:=thr_bad Hxl Hrun hcf (by simp) Hres
      clear hcf hk hdi hn
      go_wp2
      go_ret2
      exact ⟨rfl,Hm.out.alloc _⟩
    ·replace h0:w2.cell? ⟨ub,uoff+q*2,none⟩=some (.string ⟨#[119,97,105,116]⟩):=h0
     replace Hxl:Hid (l[q]?=some (⟨#[119,97,105,116]⟩,xn)):=Hxl
     obtain ⟨e0,e1,e2,e3,e4,e5,e6,e7,e8⟩:=kEq ⟨#[119,97,105,116]⟩ false false false true false false false false false (by decide +kernel)
     by_cases hn:xn=0
     ·subst hn
      rcases (by omega:sd=0∨1≤sd)with rfl|hs1
      ·obtain rfl:di=0:=by omega
       have hcf:cfOp ⟨0,sr,sw,su⟩ (⟨#[119,97,105,116]⟩,0)=(0,⟨0,sr,true,su⟩):=by unfold cfOp;simp[kM,kU]
       have hnx:WInv l (q+1) ⟨0,sr,true,su⟩ pw:=HW.out.next Hxl.out rfl (by simp[isWF,kWait,kFlush])
       have Hnx:=Lib.hid hnx
       clear hnx
       have hts:=cRun_take_succ l q c0 Hxl.out Hrun.out
       rw[hcf,if_neg (by simp)]at hts
       have Hts:=Lib.hid hts
       clear hts hcf hk hdi
       go_wp2
       go_roundw
       case rel=>exact ⟨q+1,⟨0,sr,true,su⟩,_,_,by omega,rfl,rfl,rfl,by go_num,Hts.out,(by first|omega|(simp only;omega)|(simp only;done)),(by first|omega|(simp only;omega)|(simp only;done)),Hnx.out,Hm.out.alloc _⟩
       case measure=>simp[intOf];omega
      ·have dd:decide (0<di)=true:=by simp;omega
       have hs0:¬sd=0:=by omega
       have hcf:cfOp ⟨sd,sr,sw,su⟩ (⟨#[119,97,105,116]⟩,0)=(8,⟨sd,sr,sw,su⟩):=by unfold cfOp;simp[kM,kU,hs0]
       obtain ⟨rfl,rfl⟩:=thr_bad Hxl Hrun hcf (by simp) Hres
       clear hcf hk hdi hs0
       go_wp2
       go_ret2
       exact ⟨rfl,Hm.out.alloc _⟩
     ·have n1:(xn==0)=false:=by simpa using hn
      have n2:decide (xn=0)=false:=by simpa using hn
      have hcf:cfOp ⟨sd,sr,sw,su⟩ (⟨#[119,97,105,116]⟩,xn)=(3,⟨sd,sr,sw,su⟩):=by unfold cfOp;simp[kM,kU,hn]
      obtain ⟨rfl,rfl⟩:=thr_bad Hxl Hrun hcf (by simp) Hres
      clear hcf hk hdi hn
      go_wp2
      go_ret2
      exact ⟨rfl,Hm.out.alloc _⟩
    ·replace h0:w2.cell? ⟨ub,uoff+q*2,none⟩=some (.string ⟨#[114,101,97,100]⟩):=h0
     replace Hxl:Hid (l[q]?=some (⟨#[114,101,97,100]⟩,xn)):=Hxl
     obtain ⟨e0,e1,e2,e3,e4,e5,e6,e7,e8⟩:=kEq ⟨#[114,101,97,100]⟩ false false false false false true false false false (by decide +kernel)
     by_cases hn:xn=0
     ·subst hn
      rcases (by omega:sd=0∨1≤sd)with rfl|hs1
      ·obtain rfl:di=0:=by omega
       have hcf:cfOp ⟨0,sr,sw,su⟩ (⟨#[114,101,97,100]⟩,0)=(8,⟨0,sr,sw,su⟩):=by unfold cfOp;simp[kM,kU]
       obtain ⟨rfl,rfl⟩:=thr_bad Hxl Hrun hcf (by simp) Hres
       clear hcf hk hdi
       go_wp2
       go_ret2
       exact ⟨rfl,Hm.out.alloc _⟩
      ·have dd:(di==0)=false:=by simp;omega
       have dd2:decide (di=0)=false:=by simp;omega
       have hs0:¬sd=0:=by omega
       have hcf:cfOp ⟨sd,sr,sw,su⟩ (⟨#[114,101,97,100]⟩,0)=(0,⟨sd,sr,sw,su⟩):=by unfold cfOp;simp[kM,kU,hs0]
       have hnx:WInv l (q+1) ⟨sd,sr,sw,su⟩ pw:=HW.out.next Hxl.out rfl (by simp[isWF,kWait,kFlush])
       have Hnx:=Lib.hid hnx
       clear hnx hs0
       have hts:=cRun_take_succ l q c0 Hxl.out Hrun.out
       rw[hcf,if_neg (by simp)]at hts
       have Hts:=Lib.hid hts
       clear hts hcf hk
       go_wp2
       go_roundw
       case rel=>exact ⟨q+1,⟨sd,sr,sw,su⟩,_,_,by omega,rfl,rfl,rfl,by go_num,Hts.out,(by first|omega|(simp only;omega)|(simp only;done)),(by first|omega|(simp only;omega)|(simp only;done)),Hnx.out,Hm.out.alloc _⟩
       case measure=>simp[intOf];omega
     ·have n1:(xn==0)=false:=by simpa using hn
      have n2:decide (xn=0)=false:=by simpa using hn
      have hcf:cfOp ⟨sd,sr,sw,su⟩ (⟨#[114,101,97,100]⟩,xn)=(3,⟨sd,sr,sw,su⟩):=by unfold cfOp;simp[kM,kU,hn]
      obtain ⟨rfl,rfl⟩:=thr_bad Hxl Hrun hcf (by simp) Hres
      clear hcf hk hdi hn
      go_wp2
      go_ret2
      exact ⟨rfl,Hm.out.alloc _⟩
    ·replace h0:w2.cell? ⟨ub,uoff+q*2,none⟩=some (.string ⟨#[112,117,116]⟩):=h0
     replace Hxl:Hid (l[q]?=some (⟨#[112,117,116]⟩,xn)):=Hxl
     obtain ⟨e0,e1,e2,e3,e4,e5,e6,e7,e8⟩:=kEq ⟨#[112,117,116]⟩ false false false false false false true false false (by decide +kernel)
     by_cases hn1:xn<1
     ·have n1:decide (xn<1)=true:=by simpa using hn1
      have hcf:cfOp ⟨sd,sr,sw,su⟩ (⟨#[112,117,116]⟩,xn)=(2,⟨sd,sr,sw,su⟩):=by unfold cfOp;simp[kM,kU,hn1]
      obtain ⟨rfl,rfl⟩:=thr_bad Hxl Hrun hcf (by simp) Hres
      clear hcf hk hdi
      go_wp2
      go_ret2
      exact ⟨rfl,Hm.out.alloc _⟩
     by_cases hn2:1000<xn
     ·have n1:decide (xn<1)=false:=by simpa using hn1
      have n2:decide (1000<xn)=true:=by simpa using hn2
      have hcf:cfOp ⟨sd,sr,sw,su⟩ (⟨#[112,117,116]⟩,xn)=(2,⟨sd,sr,sw,su⟩):=by unfold cfOp;simp[kM,kU,hn2]
      obtain ⟨rfl,rfl⟩:=thr_bad Hxl Hrun hcf (by simp) Hres
      clear hcf hk hdi
      go_wp2
      go_ret2
      exact ⟨rfl,Hm.out.alloc _⟩
     have n1:decide (xn<1)=false:=by simpa using hn1
     have n2:decide (1000<xn)=false:=by simpa using hn2
     rcases (by omega:sd=0∨1≤sd)with rfl|hs1
     ·obtain rfl:di=0:=by omega
      cases sr with
      |true=>
       have hcf:cfOp ⟨0,true,sw,su⟩ (⟨#[112,117,116]⟩,xn)=(8,⟨0,true,sw,su⟩):=by unfold cfOp;simp[kM,kU,hn1,hn2]
       have dp:decide (0≤pw)=true:=by
        rcases HW.out with ⟨h,_⟩|⟨_,p,_,h,_⟩
        ·cases h
        ·simp;omega
       obtain ⟨rfl,rfl⟩:=thr_bad Hxl Hrun hcf (by simp) Hres
       clear hcf hk hdi hn1 hn2
       go_wp2
       go_ret2
       exact ⟨rfl,Hm.out.alloc _⟩
      |false=>
       have hcf:cfOp ⟨0,false,sw,su⟩ (⟨#[112,117,116]⟩,xn)=(0,⟨0,true,false,su⟩):=by unfold cfOp;simp[kM,kU,hn1,hn2]
       have dp:decide (0≤pw)=false:=by
        rcases HW.out with ⟨_,h⟩|⟨h,_⟩
        ·simp;omega
        ·cases h
       have hnx:WInv l (q+1) ⟨0,true,false,su⟩ (q:Int):=WInv.put Hxl.out (by simp[isWF,kWait,kFlush]) rfl rfl
       have Hnx:=Lib.hid hnx
       clear hnx hn1 hn2
       have hts:=cRun_take_succ l q c0 Hxl.out Hrun.out
       rw[hcf,if_neg (by simp)]at hts
       have Hts:=Lib.hid hts
       clear hts hcf hk hdi
       go_wp2
       go_roundw
       case rel=>exact ⟨q+1,⟨0,true,false,su⟩,_,_,by omega,rfl,rfl,rfl,by go_num,Hts.out,(by first|omega|(simp only;omega)|(simp only;done)),(by first|omega|(simp only;omega)|(simp only;done)),Hnx.out,Hm.out.alloc _⟩
       case measure=>simp[intOf];omega
     ·have dd:decide (0<di)=true:=by simp;omega
      have hs0:¬sd=0:=by omega
      have hcf:cfOp ⟨sd,sr,sw,su⟩ (⟨#[112,117,116]⟩,xn)=(8,⟨sd,sr,sw,su⟩):=by unfold cfOp;simp[kM,kU,hs0,hn1,hn2]
      obtain ⟨rfl,rfl⟩:=thr_bad Hxl Hrun hcf (by simp) Hres
      clear hcf hk hdi hs0 hn1 hn2
      go_wp2
      go_ret2
      exact ⟨rfl,Hm.out.alloc _⟩
    ·replace h0:w2.cell? ⟨ub,uoff+q*2,none⟩=some (.string ⟨#[100,114,111,112]⟩):=h0
     replace Hxl:Hid (l[q]?=some (⟨#[100,114,111,112]⟩,xn)):=Hxl
     obtain ⟨e0,e1,e2,e3,e4,e5,e6,e7,e8⟩:=kEq ⟨#[100,114,111,112]⟩ false false false false false false false true false (by decide +kernel)
     by_cases hn:xn=0
     ·subst hn
      cases sr with
      |false=>
       have hcf:cfOp ⟨sd,false,sw,su⟩ (⟨#[100,114,111,112]⟩,0)=(5,⟨sd,false,sw,su⟩):=by unfold cfOp;simp[kM,kU]
       obtain rfl:pw = -1:=by
        rcases HW.out with ⟨_,h⟩|⟨h,_⟩
        ·exact h
        ·cases h
       obtain ⟨rfl,rfl⟩:=thr_bad Hxl Hrun hcf (by simp) Hres
       clear hcf hk hdi
       go_wp2
       go_ret2
       exact ⟨rfl,Hm.out.alloc _⟩
      |true=>
       obtain ⟨p,hpq,rfl,hsw⟩:∃p:Nat,p<q∧pw=(p:Int)∧sw=anyWF l p q:=by
        rcases HW.out with ⟨h,_⟩|⟨_,h⟩
        ·cases h
        ·exact h
       have dp:decide ((p:Int)<0)=false:=by simp
       have Hsw:=Lib.hid hsw
       clear hsw hk
       go_wp2
       go_loop [9,10] (fun bv i=>∃j:Nat,p≤j∧j≤q∧bv=.bool (anyWF l p j)∧i=.int .i64 j) (fun _ i=>q - (intOf i).toNat)
       case atStart=>exact ⟨p,Nat.le_refl _,by omega,by rw[anyWF_same],rfl⟩
       case round=>
        obtain ⟨j,hpj,hjq,rfl,rfl⟩:=hrel
        by_cases hltj:j<q
        ·have hdj:decide ((j:Int)<(q:Int))=true:=by simp;omega
         have hjl:(j:Int)<(l.length:Int):=by omega
         obtain ⟨y,hyl⟩:∃y,l[j]?=some y:=⟨_,List.getElem?_eq_getElem (by omega)⟩
         obtain ⟨ub',uoff',e',hub',g0,g1⟩:=Hxx.out j y hyl
         cases e'
         have g0:=(Hm.out.alloc (.cells #[.string ⟨#[100,114,111,112]⟩,.int .i64 0] 88)).cell g0 (fun e=>e)
         have hsu:=anyWF_succ hyl hpj
         have Hsu:=Lib.hid hsu
         obtain ⟨ys,yn⟩:=y
         simp only at g0
         generalize anyWF l p j=aw at *
         by_cases hyw:ys=kWait
         ·subst hyw
          replace g0:(w2.alloc (.cells #[.string ⟨#[100,114,111,112]⟩,.int .i64 0] 88)).cell? ⟨ub,uoff+j*2,none⟩=some (.string ⟨#[119,97,105,116]⟩):=g0
          have y0:((⟨#[119,97,105,116]⟩:ByteArray).toList==(⟨#[119,97,105,116]⟩:ByteArray).toList)=true:=by simp
          have hT:anyWF l p (j+1)=true:=by rw[Hsu.out];simp[isWF]
          have HT:=Lib.hid hT
          clear hyl hsu hT
          go_wp2
          go_round
          case rel=>exact ⟨j+1,by omega,by omega,by rw[HT.out],by go_num⟩
          case measure=>simp[intOf];omega
         ·by_cases hyf:ys=kFlush
          ·subst hyf
           replace g0:(w2.alloc (.cells #[.string ⟨#[100,114,111,112]⟩,.int .i64 0] 88)).cell? ⟨ub,uoff+j*2,none⟩=some (.string ⟨#[102,108,117,115,104]⟩):=g0
           have y0:((⟨#[102,108,117,115,104]⟩:ByteArray).toList==(⟨#[119,97,105,116]⟩:ByteArray).toList)=false:=by
            rw[ByteArray.toList_eq,ByteArray.toList_eq];rfl
           have y1:((⟨#[102,108,117,115,104]⟩:ByteArray).toList==(⟨#[102,108,117,115,104]⟩:ByteArray).toList)=true:=by simp
           have hT:anyWF l p (j+1)=true:=by rw[Hsu.out];simp[isWF]
           have HT:=Lib.hid hT
           clear hyl hsu hyw hT
           go_wp2
           go_round
           case rel=>exact ⟨j+1,by omega,by omega,by rw[HT.out],by go_num⟩
           case measure=>simp[intOf];omega
          ·obtain ⟨y0,z0⟩:=str_neL hyw
           obtain ⟨y1,z1⟩:=str_neL hyf
           unfold kWait at y0 z0
           unfold kFlush at y1 z1
           rw[show ((⟨#[119,97,105,116]⟩:ByteArray).toList)=[119,97,105,116]from by rw[ByteArray.toList_eq]]at y0 z0
           rw[show ((⟨#[102,108,117,115,104]⟩:ByteArray).toList)=[102,108,117,115,104]from by rw[ByteArray.toList_eq]]at y1 z1
           have hT:anyWF l p (j+1)=aw:=by rw[Hsu.out];simp[isWF,hyw,hyf]
           have HT:=Lib.hid hT
           clear hyl hsu hyw hyf hT
           go_wp2
           go_round
           case rel=>exact ⟨j+1,by omega,by omega,by rw[HT.out],by go_num⟩
           case measure=>simp[intOf];omega
        ·have hdj:decide ((j:Int)<(q:Int))=false:=by simp;omega
         obtain rfl:j=q:=by omega
         rw[←Hsw.out]
         clear hjq hpj hltj Hsw
         cases sw with
         |true=>
          have hcf:cfOp ⟨sd,true,true,su⟩ (⟨#[100,114,111,112]⟩,0)=(0,⟨sd,false,true,su⟩):=by unfold cfOp;simp[kM,kU]
          have hts:=cRun_take_succ l j c0 Hxl.out Hrun.out
          rw[hcf,if_neg (by simp)]at hts
          have Hts:=Lib.hid hts
          clear hts hcf
          go_wp2
          go_roundw
          case rel=>exact ⟨j+1,⟨sd,false,true,su⟩,_,_,by omega,rfl,rfl,rfl,by go_num,Hts.out,(by first|omega|(simp only;omega)|(simp only;done)),(by first|omega|(simp only;omega)|(simp only;done)),WInv.none rfl,Hm.out.alloc _⟩
          case measure=>simp[intOf];omega
         |false=>
          have hcf:cfOp ⟨sd,true,false,su⟩ (⟨#[100,114,111,112]⟩,0)=(0,⟨sd,false,false,true⟩):=by unfold cfOp;simp[kM,kU]
          have hts:=cRun_take_succ l j c0 Hxl.out Hrun.out
          rw[hcf,if_neg (by simp)]at hts
          have Hts:=Lib.hid hts
          clear hts hcf
          go_wp2
          go_roundw
          case rel=>exact ⟨j+1,⟨sd,false,false,true⟩,_,_,by omega,rfl,rfl,rfl,by go_num,Hts.out,(by first|omega|(simp only;omega)|(simp only;done)),(by first|omega|(simp only;omega)|(simp only;done)),WInv.none rfl,Hm.out.alloc _⟩
          case measure=>simp[intOf];omega
     ·have n1:(xn==0)=false:=by simpa using hn
      have n2:decide (xn=0)=false:=by simpa using hn
      have hcf:cfOp ⟨sd,sr,sw,su⟩ (⟨#[100,114,111,112]⟩,xn)=(3,⟨sd,sr,sw,su⟩):=by unfold cfOp;simp[kM,kU,hn]
      obtain ⟨rfl,rfl⟩:=thr_bad Hxl Hrun hcf (by simp) Hres
      clear hcf hk hdi hn
      go_wp2
      go_ret2
      exact ⟨rfl,Hm.out.alloc _⟩
    ·replace h0:w2.cell? ⟨ub,uoff+q*2,none⟩=some (.string ⟨#[108,97,116,101,114]⟩):=h0
     replace Hxl:Hid (l[q]?=some (⟨#[108,97,116,101,114]⟩,xn)):=Hxl
     obtain ⟨e0,e1,e2,e3,e4,e5,e6,e7,e8⟩:=kEq ⟨#[108,97,116,101,114]⟩ false false false false false false false false true (by decide +kernel)
     by_cases hn:xn=0
     ·subst hn
      cases sr with
      |false=>
       have hcf:cfOp ⟨sd,false,sw,su⟩ (⟨#[108,97,116,101,114]⟩,0)=(5,⟨sd,false,sw,su⟩):=by unfold cfOp;simp[kM,kU]
       obtain rfl:pw = -1:=by
        rcases HW.out with ⟨_,h⟩|⟨h,_⟩
        ·exact h
        ·cases h
       obtain ⟨rfl,rfl⟩:=thr_bad Hxl Hrun hcf (by simp) Hres
       clear hcf hk hdi
       go_wp2
       go_ret2
       exact ⟨rfl,Hm.out.alloc _⟩
      |true=>
       obtain ⟨p,hpq,rfl,hsw⟩:∃p:Nat,p<q∧pw=(p:Int)∧sw=anyWF l p q:=by
        rcases HW.out with ⟨h,_⟩|⟨_,h⟩
        ·cases h
        ·exact h
       have dp:decide ((p:Int)<0)=false:=by simp
       have Hsw:=Lib.hid hsw
       clear hsw hk
       go_wp2
       go_loop [9,10] (fun bv i=>∃j:Nat,p≤j∧j≤q∧bv=.bool (anyWF l p j)∧i=.int .i64 j) (fun _ i=>q - (intOf i).toNat)
       case atStart=>exact ⟨p,Nat.le_refl _,by omega,by rw[anyWF_same],rfl⟩
       case round=>
        obtain ⟨j,hpj,hjq,rfl,rfl⟩:=hrel
        by_cases hltj:j<q
        ·have hdj:decide ((j:Int)<(q:Int))=true:=by simp;omega
         have hjl:(j:Int)<(l.length:Int):=by omega
         obtain ⟨y,hyl⟩:∃y,l[j]?=some y:=⟨_,List.getElem?_eq_getElem (by omega)⟩
         obtain ⟨ub',uoff',e',hub',g0,g1⟩:=Hxx.out j y hyl
         cases e'
         have g0:=(Hm.out.alloc (.cells #[.string ⟨#[108,97,116,101,114]⟩,.int .i64 0] 88)).cell g0 (fun e=>e)
         have hsu:=anyWF_succ hyl hpj
         have Hsu:=Lib.hid hsu
         obtain ⟨ys,yn⟩:=y
         simp only at g0
         generalize anyWF l p j=aw at *
         by_cases hyw:ys=kWait
         ·subst hyw
          replace g0:(w2.alloc (.cells #[.string ⟨#[108,97,116,101,114]⟩,.int .i64 0] 88)).cell? ⟨ub,uoff+j*2,none⟩=some (.string ⟨#[119,97,105,116]⟩):=g0
          have y0:((⟨#[119,97,105,116]⟩:ByteArray).toList==(⟨#[119,97,105,116]⟩:ByteArray).toList)=true:=by simp
          have hT:anyWF l p (j+1)=true:=by rw[Hsu.out];simp[isWF]
          have HT:=Lib.hid hT
          clear hyl hsu hT
          go_wp2
          go_round
          case rel=>exact ⟨j+1,by omega,by omega,by rw[HT.out],by go_num⟩
          case measure=>simp[intOf];omega
         ·by_cases hyf:ys=kFlush
          ·subst hyf
           replace g0:(w2.alloc (.cells #[.string ⟨#[108,97,116,101,114]⟩,.int .i64 0] 88)).cell? ⟨ub,uoff+j*2,none⟩=some (.string ⟨#[102,108,117,115,104]⟩):=g0
           have y0:((⟨#[102,108,117,115,104]⟩:ByteArray).toList==(⟨#[119,97,105,116]⟩:ByteArray).toList)=false:=by
            rw[ByteArray.toList_eq,ByteArray.toList_eq];rfl
           have y1:((⟨#[102,108,117,115,104]⟩:ByteArray).toList==(⟨#[102,108,117,115,104]⟩:ByteArray).toList)=true:=by simp
           have hT:anyWF l p (j+1)=true:=by rw[Hsu.out];simp[isWF]
           have HT:=Lib.hid hT
           clear hyl hsu hyw hT
           go_wp2
           go_round
           case rel=>exact ⟨j+1,by omega,by omega,by rw[HT.out],by go_num⟩
           case measure=>simp[intOf];omega
          ·obtain ⟨y0,z0⟩:=str_neL hyw
           obtain ⟨y1,z1⟩:=str_neL hyf
           unfold kWait at y0 z0
           unfold kFlush at y1 z1
           rw[show ((⟨#[119,97,105,116]⟩:ByteArray).toList)=[119,97,105,116]from by rw[ByteArray.toList_eq]]at y0 z0
           rw[show ((⟨#[102,108,117,115,104]⟩:ByteArray).toList)=[102,108,117,115,104]from by rw[ByteArray.toList_eq]]at y1 z1
           have hT:anyWF l p (j+1)=aw:=by rw[Hsu.out];simp[isWF,hyw,hyf]
           have HT:=Lib.hid hT
           clear hyl hsu hyw hyf hT
           go_wp2
           go_round
           case rel=>exact ⟨j+1,by omega,by omega,by rw[HT.out],by go_num⟩
           case measure=>simp[intOf];omega
        ·have hdj:decide ((j:Int)<(q:Int))=false:=by simp;omega
         obtain rfl:j=q:=by omega
         rw[←Hsw.out]
         clear hjq hpj hltj Hsw
         have hcf:cfOp ⟨sd,true,sw,su⟩ (⟨#[108,97,116,101,114]⟩,0)=(0,⟨sd,false,sw,su⟩):=by unfold cfOp;simp[kM,kU]
         have hts:=cRun_take_succ l j c0 Hxl.out Hrun.out
         rw[hcf,if_neg (by simp)]at hts
         have Hts:=Lib.hid hts
         clear hts hcf
         go_wp2
         go_roundw
         case rel=>exact ⟨j+1,⟨sd,false,sw,su⟩,_,_,by omega,rfl,rfl,rfl,by go_num,Hts.out,(by first|omega|(simp only;omega)|(simp only;done)),(by first|omega|(simp only;omega)|(simp only;done)),WInv.none rfl,Hm.out.alloc _⟩
         case measure=>simp[intOf];omega
     ·have n1:(xn==0)=false:=by simpa using hn
      have n2:decide (xn=0)=false:=by simpa using hn
      have hcf:cfOp ⟨sd,sr,sw,su⟩ (⟨#[108,97,116,101,114]⟩,xn)=(3,⟨sd,sr,sw,su⟩):=by unfold cfOp;simp[kM,kU,hn]
      obtain ⟨rfl,rfl⟩:=thr_bad Hxl Hrun hcf (by simp) Hres
      clear hcf hk hdi hn
      go_wp2
      go_ret2
      exact ⟨rfl,Hm.out.alloc _⟩
    ·replace h0:w2.cell? ⟨ub,uoff+q*2,none⟩=some (.string ⟨#[102,108,117,115,104]⟩):=h0
     replace Hxl:Hid (l[q]?=some (⟨#[102,108,117,115,104]⟩,xn)):=Hxl
     obtain ⟨e0,e1,e2,e3,e4,e5,e6,e7,e8⟩:=kEq ⟨#[102,108,117,115,104]⟩ false false false false true false false false false (by decide +kernel)
     by_cases hn:xn=0
     ·subst hn
      rcases (by omega:sd=0∨1≤sd)with rfl|hs1
      ·obtain rfl:di=0:=by omega
       have hcf:cfOp ⟨0,sr,sw,su⟩ (⟨#[102,108,117,115,104]⟩,0)=(0,⟨0,sr,true,su⟩):=by unfold cfOp;simp[kM,kU]
       have hnx:WInv l (q+1) ⟨0,sr,true,su⟩ pw:=HW.out.next Hxl.out rfl (by simp[isWF,kWait,kFlush])
       have Hnx:=Lib.hid hnx
       clear hnx
       have hts:=cRun_take_succ l q c0 Hxl.out Hrun.out
       rw[hcf,if_neg (by simp)]at hts
       have Hts:=Lib.hid hts
       clear hts hcf hk hdi
       go_wp2
       go_roundw
       case rel=>exact ⟨q+1,⟨0,sr,true,su⟩,_,_,by omega,rfl,rfl,rfl,by go_num,Hts.out,(by first|omega|(simp only;omega)|(simp only;done)),(by first|omega|(simp only;omega)|(simp only;done)),Hnx.out,Hm.out.alloc _⟩
       case measure=>simp[intOf];omega
      ·have dd:decide (0<di)=true:=by simp;omega
       have hs0:¬sd=0:=by omega
       have hcf:cfOp ⟨sd,sr,sw,su⟩ (⟨#[102,108,117,115,104]⟩,0)=(8,⟨sd,sr,sw,su⟩):=by unfold cfOp;simp[kM,kU,hs0]
       obtain ⟨rfl,rfl⟩:=thr_bad Hxl Hrun hcf (by simp) Hres
       clear hcf hk hdi hs0
       go_wp2
       go_ret2
       exact ⟨rfl,Hm.out.alloc _⟩
     ·have n1:(xn==0)=false:=by simpa using hn
      have n2:decide (xn=0)=false:=by simpa using hn
      have hcf:cfOp ⟨sd,sr,sw,su⟩ (⟨#[102,108,117,115,104]⟩,xn)=(3,⟨sd,sr,sw,su⟩):=by unfold cfOp;simp[kM,kU,hn]
      obtain ⟨rfl,rfl⟩:=thr_bad Hxl Hrun hcf (by simp) Hres
      clear hcf hk hdi hn
      go_wp2
      go_ret2
      exact ⟨rfl,Hm.out.alloc _⟩
  ·have hd:decide ((q:Int)<(l.length:Int))=false:=by simp;omega
   obtain rfl:q=l.length:=by omega
   have hrun:=Hrun.out
   rw[List.take_length]at hrun
   by_cases hs0:s.d=0
   ·obtain rfl:di=0:=by omega
    have hrF:=cRowF_fine hrun hs0
    have ht:thrF l=(0,!s.u):=by unfold thrF;rw[hrF,cSafe_row hrun]
    rw[Hres.out]at ht
    obtain ⟨rfl,rfl⟩:=Prod.mk.inj ht
    clear hrF hrun ht hs0 hdi
    go_wp2
    go_ret2
    exact ⟨rfl,Hm.out⟩
   ·have dd:decide (0<di)=true:=by simp;omega
    have hrF:=cRowF_deep hrun hs0
    have ht:thrF l=(8,false):=by unfold thrF;rw[hrF]
    rw[Hres.out]at ht
    obtain ⟨rfl,rfl⟩:=Prod.mk.inj ht
    clear hrF hrun ht hs0 hdi
    go_wp2
    go_ret2
    exact ⟨rfl,Hm.out⟩
end
end Go.Proofs.YtppihkneeolomaaGreatDoor
section
namespace Qc
open Qs Qu Go.Proofs.YtppihkneeolomaaGreatDoor
def copsCode(f tn:Nat):Nat→List COp→List Instr
 |_,[]=>[]
 |k,x :: l=>cblk f tn k x++copsCode f tn (k+cinc x) l
def clabs:List COp→Nat
 |[]=>0
 |x :: l=>cinc x+clabs l
theorem clabs_snoc(x:COp):∀l,clabs (l++[x])=clabs l+cinc x
 |[]=>by simp[clabs]
 |y :: l=>by simp only[List.cons_append,clabs,clabs_snoc x l];omega
theorem clabs_le:∀l,clabs l≤3*l.length
 |[]=>by simp[clabs]
 |x :: l=>by
  have:=clabs_le l
  have h:cinc x≤3:=by cases x <;> simp[cinc]
  simp only[clabs,List.length_cons];omega
theorem copsCode_snoc(f tn:Nat)(x:COp):∀(l:List COp) (k:Nat),copsCode f tn k (l++[x])=copsCode f tn k l++cblk f tn (k+clabs l) x
 |[],k=>by simp[copsCode,clabs]
 |y :: l,k=>by
  rw[List.cons_append,copsCode,copsCode,copsCode_snoc f tn x l,List.append_assoc]
  simp only[clabs]
  rw[show k+cinc y+clabs l=k+(cinc y+clabs l) by omega]
theorem part_len2{f j:Nat}(h4:f≤4)(hj:j<5)(k:Nat):(part f k j).length≤70:=by unfold part preC;rw[List.length_map];exact gcode_len h4 hj
theorem cblk_len{f:Nat}(h4:f≤4)(tn k:Nat)(x:COp):(cblk f tn k x).length≤80:=by
 cases x with
 |enter=>have:=part_len2 h4 (show 0<5 by decide) k;show (part f k 0).length≤80;omega
 |leave=>have:=part_len2 h4 (show 1<5 by decide) k;show (part f k 1).length≤80;omega
 |rest=>have:=part_len2 h4 (show 2<5 by decide) k;show (part f k 2).length≤80;omega
 |wait=>have:=part_len2 h4 (show 4<5 by decide) k;show (part f k 4).length≤80;omega
 |flush=>
  have:=part_len2 h4 (show 4<5 by decide) k
  show (part f k 4++flushTail (labN (k+2)) (labN (k+3)) tn 1).length≤80
  rw[List.length_append]
  simp only[flushTail,List.length_cons,List.length_nil];omega
 |read=>simp[cblk,readBlk]
 |put n=>simp[cblk,putBlkC]
 |drop=>simp[cblk,dropBlk]
 |later=>simp[cblk,laterBlk]
theorem copsCode_len{f:Nat}(h4:f≤4)(tn:Nat):∀(l:List COp) (k:Nat),(copsCode f tn k l).length≤80*l.length
 |[],k=>by simp[copsCode]
 |x :: l,k=>by
  have h1:=copsCode_len h4 tn l (k+cinc x)
  have h2:=cblk_len h4 tn k x
  simp only[copsCode,List.length_append,List.length_cons];omega
def ccode(f tn:Nat)(ops:List COp):List Instr:=(copsCode f tn 0 ops++part f (clabs ops) 3)++[⟨20,0,0,0,[]⟩]
end Qc
namespace Go.Proofs.YtppihkneeolomaaGreatDoor
open Go.RowKit Qs Qh Qc
def cK:COp→ByteArray
 |.enter=>kEnter
 |.leave=>kLeave
 |.rest=>kRest
 |.wait=>kWait
 |.read=>kRead
 |.put _=>kPut
 |.drop=>kDrop
 |.later=>kLater
 |.flush=>kFlush
def cN:COp→Int
 |.put n=>n
 |_=>0
def cR(x:COp):ROp:=(cK x,cN x)
def rawC(q:List (List COp)):List (List ROp):=q.map (·.map cR)
def toC(x:ROp):COp:=
 if x.1=kEnter then .enter else if x.1=kLeave then .leave else if x.1=kRest then .rest else if x.1=kWait then .wait else if x.1=kRead then .read
 else if x.1=kPut then .put x.2 else if x.1=kDrop then .drop else if x.1=kLater then .later else .flush
theorem toC_ok{s:CSt}{x:ROp}(h:(cfOp s x).1=0):cR (toC x)=x∧∀n,toC x=.put n→1≤n∧n≤1000:=by
 obtain ⟨k,n⟩:=x
 have hm:memK kindsC k=true:=by
  cases e:memK kindsC k with
  |true=>rfl
  |false=>unfold cfOp at h;simp[e]at h
 by_cases hp:k=kPut
 ·subst hp
  have hb:¬(n<1∨1000<n):=fun e=>by unfold cfOp at h;simp[hm,e]at h
  have ht:toC (kPut,n)=.put n:=by unfold toC;simp[kEnter,kLeave,kRest,kWait,kRead,kPut]
  rw[ht]
  refine ⟨rfl,fun m e=>?_⟩
  cases e
  omega
 ·have hn:n=0:=by
   by_cases e:n=0
   ·exact e
   ·unfold cfOp at h;simp[hm,hp,e]at h
  subst hn
  rcases kinds_cases hm with rfl|rfl|rfl|rfl|rfl|rfl|rfl|rfl|rfl
  all_goals first
   |exact absurd rfl hp
   |(refine ⟨?_,fun m e=>?_⟩
     ·simp[toC,cR,cK,cN,kEnter,kLeave,kRest,kWait,kRead,kPut,kDrop,kLater,kFlush]
     ·simp[toC,kEnter,kLeave,kRest,kWait,kRead,kPut,kDrop,kLater,kFlush]at e)
theorem cRun_all:∀(l:List ROp) (s:CSt),(cRun s l).1=0→∀x∈l,∃s',(cfOp s' x).1=0
 |[],s,_=>fun x hx=>by cases hx
 |y :: l,s,h=>fun x hx=>by
  unfold cRun at h
  by_cases hf:(cfOp s y).1≠0
  ·rw[if_pos hf]at h;exact absurd h hf
  ·rw[if_neg hf]at h
   rcases List.mem_cons.1 hx with rfl|hx
   ·exact ⟨s,by omega⟩
   ·exact cRun_all l _ h x hx
theorem good_rawC{ll:List (List ROp)}(h:(cfG ll).1=0):∃q:List (List COp),ll=rawC q∧1≤q.length∧q.length≤6∧(∀l∈q,l.length≤20)∧(∀l∈q,∀n,COp.put n∈l→1≤n∧n≤1000)∧∀l∈q,cRowF (l.map cR)=none:=by
 have hz:=cfG_num ll
 unfold cfG at h hz
 cases hm:manyB ll with
 |false=>rw[hm]at h;simp at h
 |true=>
  rw[hm]at h hz
  simp only[if_true]at h hz
  obtain ⟨h1,h6,h20⟩:=manyB_iff.1 hm
  have hall:∀l∈ll,cRowF l=none:=by
   rcases allR_cases (rf:=cRowF) ll 0 with ⟨_,h2⟩|⟨k,l',c,g1,g2,g3,g4⟩
   ·exact h2
   ·rw[g3]at h
    have:=cRowF_num g2
    simp only at h
    omega
  have hx:∀l∈ll,∀x∈l,cR (toC x)=x∧∀n,toC x=.put n→1≤n∧n≤1000:=fun l hl x hx=>by
   have hr:=hall l hl
   have h0:(cRun c0 l).1=0:=by
    unfold cRowF at hr
    by_cases e:(cRun c0 l).1≠0
    ·rw[if_pos e]at hr;cases hr
    ·omega
   obtain ⟨s',hs⟩:=cRun_all l c0 h0 x hx
   exact toC_ok hs
  have hmap:∀l∈ll,(l.map toC).map cR=l:=fun l hl=>by
   rw[List.map_map]
   conv=>rhs;rw[←List.map_id l]
   exact List.map_congr_left fun x hx'=>(hx l hl x hx').1
  refine ⟨ll.map (·.map toC),?_,by simpa using h1,by simpa using h6,fun l hl=>?_,fun l hl n hn=>?_,fun l hl=>?_⟩
  ·unfold rawC
   rw[List.map_map]
   conv=>lhs;rw[←List.map_id ll]
   exact List.map_congr_left fun l hl=>(hmap l hl).symm
  ·obtain ⟨l',hl',rfl⟩:=List.mem_map.1 hl
   rw[List.length_map];exact h20 l' hl'
  ·obtain ⟨l',hl',rfl⟩:=List.mem_map.1 hl
   obtain ⟨x,hx',e⟩:=List.mem_map.1 hn
   exact (hx l' hl' x hx').2 n e
  ·obtain ⟨l',hl',rfl⟩:=List.mem_map.1 hl
   rw[hmap l' hl'];exact hall l' hl'
variable {N0 K tn f:Nat}{big:Prop}{w w1 w2:World}{b k:Nat}{v v1 v2:Value}{l:List Instr}
theorem cop_any(x:COp)(HF:FreshH N0 big f (tn:Nat) 1 K)(hT:big→lowT N0)(h1:1≤f)(h4:f≤4)(htn:tn<6)(M:MkA N0 big f (tn:Nat) 1 w b v l k)(hk:k+3<K)(hK:K≤120)(hl:l.length≤80000) :
  Calls Tryz.prog 58 #[.pointer (some ⟨b,0,none⟩),.agg #[.string (cK x),.int .i64 (cN x)]] w fun e w'=>e=.returned (.tuple #[])∧∃v',MkA N0 big f (tn:Nat) 1 w' b v' (l++cblk f tn k x) (k+cinc x)∧MkStep w b v w' v':=by
 cases x with
 |enter=>exact cop_enter HF hT h1 h4 htn M hk hK hl
 |leave=>exact cop_leave HF hT h1 h4 htn M hk hK hl
 |rest=>exact cop_rest HF hT h1 h4 htn M hk hK hl
 |wait=>exact cop_wait HF hT h1 h4 htn M hk hK hl
 |read=>exact cop_read HF hT h1 h4 htn M hk hK hl
 |put n=>exact cop_put n HF hT h1 h4 htn M hk hK hl
 |drop=>exact cop_drop HF hT h1 h4 htn M hk hK hl
 |later=>exact cop_later HF hT h1 h4 htn M hk hK hl
 |flush=>exact cop_flush HF hT h1 h4 htn M hk hK hl
end Go.Proofs.YtppihkneeolomaaGreatDoor
end
namespace Go.Proofs.YtppihkneeolomaaGreatDoor
section
open Go.RowKit Qs Qh Qc
variable {N:Nat}{w w' w1:World}{v u x:Value}{ll:List (List ROp)}{l:List ROp}{z:List Int}
def putR(x:ROp):List Int:=if x.1=kPut then [x.2]else []
def putsR(l:List ROp):List Int:=l.flatMap putR
def putsA(ll:List (List ROp)):List Int:=1 :: ll.flatMap putsR
theorem putsR_snoc(y:ROp)(l:List ROp):putsR (l++[y])=putsR l++putR y:=by unfold putsR;rw[List.flatMap_append];simp
theorem putsA_snoc(ll:List (List ROp))(l:List ROp):putsA (ll++[l])=putsA ll++putsR l:=by unfold putsA;rw[List.flatMap_append];simp
theorem putsR_len:∀l:List ROp,(putsR l).length≤l.length
 |[]=>Nat.le_refl _
 |y :: l=>by
  have:=putsR_len l
  have h:(putR y).length≤1:=by unfold putR;split <;> simp
  show (putR y++putsR l).length≤_
  rw[List.length_append,List.length_cons];omega
theorem putsA_len:∀ll:List (List ROp),(∀l∈ll,l.length≤20)→(putsA ll).length≤1+20*ll.length
 |[],_=>by simp[putsA]
 |l :: ll,h=>by
  have h1:=putsA_len ll fun l hl=>h l (List.mem_cons_of_mem _ hl)
  have h2:=putsR_len l
  have h3:=h l (by simp)
  unfold putsA at h1 ⊢
  rw[List.flatMap_cons,List.length_cons,List.length_append,List.length_cons]
  rw[List.length_cons]at h1
  omega
theorem putsA_mem{q:List (List COp)}{n:Int}(h:n=1∨∃o∈q,COp.put n∈o):n∈putsA (rawC q):=by
 unfold putsA
 rcases h with rfl|⟨o,ho,hn⟩
 ·simp
 ·refine List.mem_cons_of_mem _ (List.mem_flatMap.2 ⟨o.map cR,List.mem_map_of_mem ho,List.mem_flatMap.2 ⟨cR (.put n),List.mem_map_of_mem hn,?_⟩⟩)
  show n∈(if kPut=kPut then [n]else [])
  rw[if_pos rfl];simp
theorem puts_ok(H:RIn N w v ll)(h6:ll.length≤6)(h20:∀l∈ll,l.length≤20) :
  Calls Tryz.prog 28 #[v] w fun e w'=>∃x,e=.returned x∧Mod noF w w'∧IOwn w' x (putsA ll)∧∀g,x.ownBlock=some g→w.heap.size≤g:=by
 have HH:=Lib.hid H
 obtain ⟨a,c,rfl,-⟩:=H
 have H20:=Lib.hid h20
 clear h20
 obtain ⟨i0,hti,hz0,hz1,hz2⟩:=info_parts intInfo4
 go_enter Tryz.func28,Tryz.ntmps28
 go_wp2
 go_loopw [3,4,5] (fun x i _ wr=>∃k:Nat,k≤ll.length∧i=.int .i64 k∧Mod noF w wr∧IOwn wr x (putsA (ll.take k))∧∀g,x.ownBlock=some g→w.heap.size≤g) (fun _ i _ _=>ll.length - (intOf i).toNat)
 case atStart=>
  refine ⟨0,Nat.zero_le _,rfl,(Mod.refl _ _).alloc _,?_,fun g h=>by cases h;exact Nat.le_refl _⟩
  rw[List.take_zero]
  refine ⟨rfl,.inr ⟨w.heap.size,1,#[.int .i64 1],rfl,Nat.zero_le _,heap_alloc_new w _,Nat.le_refl _,by unfold maxLen;omega,rfl,rfl⟩⟩
 case round=>
  obtain ⟨k,hk,rfl,hm,hO,hv⟩:=hrel
  obtain ⟨xa,xb,xc,rfl⟩:=slice_of_own hO
  generalize wr=w2 at *
  have Hm:=Lib.hid hm
  have HO:=Lib.hid hO
  have Hv:=Lib.hid hv
  clear hO hv
  by_cases hlt:k<ll.length
  ·have hd:decide ((k:Int)<(ll.length:Int))=true:=by simp;omega
   have hki:(k:Int)<(ll.length:Int):=by omega
   obtain ⟨l,hl⟩:∃l,ll[k]?=some l:=⟨_,List.getElem?_eq_getElem hlt⟩
   obtain ⟨a',c',e',hxx⟩:=HH.out
   cases e'
   obtain ⟨b,off,u,rfl,hb,hc,hr⟩:=hxx k l hl
   obtain ⟨ua,uc,rfl,hxu⟩:=hr
   have hl20:=H20.out l (List.mem_of_getElem? hl)
   have htk:ll.take (k+1)=ll.take k++[l]:=by rw[List.take_add_one,hl];rfl
   have hc0:=hm.cell hc (fun e=>e)
   have hxl:=putsA_len (ll.take k) fun l hl=>H20.out l (List.mem_of_mem_take hl)
   have hxl2:(putsA (ll.take k)).length≤121:=by
    rw[List.length_take]at hxl;omega
   have Hxu:=Lib.hid hxu
   have Htk:=Lib.hid htk
   have Hc:=Lib.hid hc
   clear hxu htk hl hxx hxl hm
   go_wp2
   go_loopw [3,5] (fun x i wr=>∃q:Nat,q≤l.length∧i=.int .i64 q∧Mod noF w wr∧IOwn wr x (putsA (ll.take k)++putsR (l.take q))∧∀g,x.ownBlock=some g→w.heap.size≤g) (fun _ i _=>l.length - (intOf i).toNat)
   case atStart=>exact ⟨0,Nat.zero_le _,rfl,Hm.out,by rw[List.take_zero];simpa[putsR]using HO.out,Hv.out⟩
   case round=>
    obtain ⟨q,hq,rfl,hmw,hO2,hv2⟩:=hrel
    obtain ⟨ya,yb,yc,rfl⟩:=slice_of_own hO2
    obtain ⟨zz,hzz⟩:∃zz,zz=putsA (ll.take k)++putsR (l.take q):=⟨_,rfl⟩
    have hzl:zz.length≤150:=by
     have:=putsR_len (l.take q)
     rw[List.length_take]at this
     rw[hzz,List.length_append];omega
    rw[←hzz]at hO2
    have hc5:=hmw.cell Hc.out (fun e=>e)
    have HO2:=Lib.hid hO2
    have Hmw:=Lib.hid hmw
    have Hv2:=Lib.hid hv2
    have Hzz:=Lib.hid hzz
    clear hO2 hv2 hzz
    by_cases hltq:q<l.length
    ·have hd2:decide ((q:Int)<(l.length:Int))=true:=by simp;omega
     have hqi:(q:Int)<(l.length:Int):=by omega
     obtain ⟨y,hyl⟩:∃y,l[q]?=some y:=⟨_,List.getElem?_eq_getElem hltq⟩
     obtain ⟨ub,uoff,rfl,hub,h0,h1⟩:=Hxu.out q y hyl
     have h0:=hmw.cell h0 (fun e=>e)
     have h1:=hmw.cell h1 (fun e=>e)
     have hps:putsA (ll.take k)++putsR (l.take (q+1))=zz++putR y:=by
      rw[Hzz.out,List.take_add_one,hyl,List.append_assoc]
      exact congrArg _ (putsR_snoc y _)
     have Hps:=Lib.hid hps
     clear hps hyl hmw
     obtain ⟨yk,n⟩:=y
     simp only at h0 h1
     by_cases hp:yk=kPut
     ·subst hp
      replace h0:wr.cell? ⟨ub,uoff+q*2,none⟩=some (.string ⟨#[112,117,116]⟩):=h0
      have hbnd:zz.length+1≤maxLen:=by unfold maxLen;omega
      go_wp2_with (at_builtin;refine wpList_append_mine _ rfl (.tmp 31) (.tmp 40) 23 rfl 3 i0 (.int .i64 0) 1 8 Tryz.underlying23 hti hz0 hz1 hz2 rfl (by decide) _ zz.length (zz.map (Value.int .i64)) rfl (by exact World.ownsRow.alloc HO2.out _) ⟨wr.heap.size,0,none⟩ 1 1 [.int .i64 n] rfl rfl (by exact new_cells_at _ _ _ rfl) (int_one n) hbnd (by omega) ?_;intro v4 w7 hown hgr hfr _;obtain ⟨va,vb,vc,rfl⟩:=slice_of_own hown;have Hown4:=Lib.hid hown;have Hgr:=Lib.hid hgr;have Hfr:=Lib.hid hfr;clear hown hgr hfr)
      go_wp2
      go_roundw
      case rel=>
       have hs:=Hmw.out.size
       have hpp:putR (kPut,n)=[n]:=by unfold putR;rw[if_pos rfl]
       refine ⟨q+1,by omega,by go_num,(Hmw.out.alloc _).trans ((Mod.refl (fun x=>(Value.slice ya yb yc).ownBlock=some x) _).grown Hgr.out fun j hj _=>hj) fun x hx e=>?_,by rw[Hps.out,hpp];exact IOwn.snoc Hown4.out,fun g hg=>?_⟩
       ·have:=Hv2.out x e;omega
       ·rcases Hfr.out g hg with e|e
        ·exact Hv2.out g e
        ·simp at e;omega
      case measure=>simp[intOf];omega
     ·obtain ⟨e0,f0⟩:=str_neL (a:=yk) (b:=⟨#[112,117,116]⟩) hp
      rw[show ((⟨#[112,117,116]⟩:ByteArray).toList)=[112,117,116]from by rw[ByteArray.toList_eq]]at e0 f0
      have Hps2:Hid (putsA (ll.take k)++putsR (l.take (q+1))=zz):=Lib.hid (by
       rw[Hps.out]
       have:putR (yk,n)=[]:=by unfold putR;rw[if_neg hp]
       rw[this];exact List.append_nil _)
      clear hp
      go_wp2
      go_roundw
      case rel=>exact ⟨q+1,by omega,by go_num,Hmw.out,by rw[Hps2.out];exact HO2.out,Hv2.out⟩
      case measure=>simp[intOf];omega
    ·have hd2:decide ((q:Int)<(l.length:Int))=false:=by simp;omega
     obtain rfl:q=l.length:=by omega
     have hfin:putsA (ll.take (k+1))=zz:=by rw[Htk.out,putsA_snoc,Hzz.out,List.take_length]
     have Hfin:=Lib.hid hfin
     clear hfin hmw
     go_wp2
     go_roundw
     case rel=>exact ⟨k+1,by omega,by go_num,Hmw.out,by rw[Hfin.out];exact HO2.out,Hv2.out⟩
     case measure=>simp[intOf];omega
  ·have hd:decide ((k:Int)<(ll.length:Int))=false:=by simp;omega
   obtain rfl:k=ll.length:=by omega
   have hO:=HO.out
   rw[List.take_length]at hO
   have HO':=Lib.hid hO
   clear hO hm
   go_wp2
   go_ret
   exact ⟨_,rfl,Hm.out,HO'.out,Hv.out⟩
theorem has_in{n:Int}(h:IntsAt w v z)(hl:z.length≤1000000)(hn:n∈z) :
  Calls Tryz.prog 29 #[v,.int .i64 n] w fun e w'=>e=.returned (.bool true)∧w=w':=by
 obtain ⟨va,vc,rfl,hcm,hcell⟩:=h.at_
 have Hcell:=Lib.hid hcell
 obtain ⟨j,hj⟩:=List.getElem?_of_mem hn
 have hjl:=(List.getElem?_eq_some_iff.1 hj).1
 have Hj:=Lib.hid hj
 clear h hcell hn hj
 go_enter Tryz.func29,Tryz.ntmps29
 go_wp2
 go_loopw [5] (fun i wr=>∃k:Nat,k≤j∧i=.int .i64 k∧w=wr) (fun i _=>z.length - (intOf i).toNat)
 case atStart=>exact ⟨0,Nat.zero_le _,rfl,rfl⟩
 case round=>
  obtain ⟨k,hk,rfl,rfl⟩:=hrel
  have hd:decide ((k:Int)<(z.length:Int))=true:=by simp;omega
  have hki:(k:Int)<(z.length:Int):=by omega
  obtain ⟨y,hy⟩:∃y,z[k]?=some y:=⟨_,List.getElem?_eq_getElem (by omega)⟩
  obtain ⟨b,off,rfl,hb,hc⟩:=Hcell.out k y hy
  by_cases e:y=n
  ·subst e
   have eb:(y==y)=true:=by simp
   clear hy
   go_wp2
   go_ret
   exact ⟨rfl,rfl⟩
  ·have eb:(y==n)=false:=by simpa using e
   have eb2:decide (y=n)=false:=by simpa using e
   have hkj:k<j:=by
    refine Nat.lt_of_le_of_ne hk fun g=>e ?_
    have:=Hj.out
    rw[←g,hy]at this
    exact Option.some.inj this
   clear hy
   go_wp2
   go_roundw
   case rel=>exact ⟨k+1,by omega,by go_num,by first|trivial|rfl⟩
   case measure=>simp[intOf];omega
end
end Go.Proofs.YtppihkneeolomaaGreatDoor
section
namespace Qc
open Qs Qu Qh Go.Proofs.YtppihkneeolomaaGreatDoor
theorem read_fine(k:Nat):BlkF k k readBlk:=by
 refine ⟨fun x hx=>?_,fun i x hi h17=>?_,fun x hx hxe=>?_,fun x hx=>?_⟩
 ·simp only[readBlk,List.mem_cons,List.not_mem_nil,or_false]at hx
  rcases hx with rfl|rfl|rfl|rfl <;> rfl
 ·match i,hi with
  |0,hi=>cases hi;simp at h17
  |1,hi=>cases hi;simp at h17
  |2,hi=>cases hi;simp at h17
  |3,hi=>cases hi;simp at h17
  |i+4,hi=>simp[readBlk]at hi
 all_goals
  simp only[readBlk,List.mem_cons,List.not_mem_nil,or_false]at hx
  rcases hx with rfl|rfl|rfl|rfl
  all_goals first
   |exact absurd rfl hxe
   |exact .inl rfl
theorem put_fine(n:Int)(hn:1≤n∧n≤1000)(k:Nat)(hk:k<127):BlkF k (k+1) (putBlkC (labN (k+1)) n):=by
 have hnm:=(labN_facts (k+1) (by omega)).2.2.1
 have hne:=Qh.nameB_ne hnm
 have o1:OwnBy (k+1) (labN (k+1)):=OwnBy.self (by omega)
 generalize hL:labN (k+1)=L at *
 have r1:regB n 4294967296=true:=by unfold regB;simp;omega
 have hl6:labelAt L (putBlkC L n) 0=some 6:=by simp[putBlkC,labelAt]
 refine ⟨fun x hx=>?_,fun i x hi h17=>?_,fun x hx hxe=>?_,fun x hx=>?_⟩
 ·simp only[putBlkC,List.mem_cons,List.not_mem_nil,or_false]at hx
  rcases hx with rfl|rfl|rfl|rfl|rfl|rfl|rfl
  ·rfl
  ·show (regB 4 8&&z0 0&&z0 0&&nameB L)=true;rw[hnm];rfl
  ·show (regB 0 8&&regB n 4294967296&&z0 0&&true)=true;rw[r1];rfl
  ·rfl
  ·rfl
  ·rfl
  ·show (z0 0&&z0 0&&z0 0&&nameB L)=true;rw[hnm];rfl
 ·match i,hi with
  |0,hi=>cases hi;simp at h17
  |1,hi=>cases hi;simp at h17
  |2,hi=>cases hi;simp at h17
  |3,hi=>cases hi;simp at h17
  |4,hi=>cases hi;simp at h17
  |5,hi=>cases hi;simp at h17
  |6,hi=>cases hi;exact hl6
  |i+7,hi=>simp[putBlkC]at hi
 ·simp only[putBlkC,List.mem_cons,List.not_mem_nil,or_false]at hx
  rcases hx with rfl|rfl|rfl|rfl|rfl|rfl|rfl
  all_goals first
   |exact absurd rfl hxe
   |(simp only;rw[hl6];rfl)
 ·simp only[putBlkC,List.mem_cons,List.not_mem_nil,or_false]at hx
  rcases hx with rfl|rfl|rfl|rfl|rfl|rfl|rfl
  all_goals first
   |exact .inl rfl
   |exact .inr ⟨k+1,by omega,by omega,o1⟩
theorem drop_fine(k:Nat)(hk:k<127):BlkF k (k+1) (dropBlk (labN (k+1))):=by
 have hnm:=(labN_facts (k+1) (by omega)).2.2.1
 have hne:=Qh.nameB_ne hnm
 have o1:OwnBy (k+1) (labN (k+1)):=OwnBy.self (by omega)
 generalize hL:labN (k+1)=L at *
 have hl6:labelAt L (dropBlk L) 0=some 3:=by simp[dropBlk,labelAt]
 refine ⟨fun x hx=>?_,fun i x hi h17=>?_,fun x hx hxe=>?_,fun x hx=>?_⟩
 ·simp only[dropBlk,List.mem_cons,List.not_mem_nil,or_false]at hx
  rcases hx with rfl|rfl|rfl|rfl
  ·show (regB 3 8&&z0 0&&z0 0&&nameB L)=true;rw[hnm];rfl
  ·rfl
  ·rfl
  ·show (z0 0&&z0 0&&z0 0&&nameB L)=true;rw[hnm];rfl
 ·match i,hi with
  |0,hi=>cases hi;simp at h17
  |1,hi=>cases hi;simp at h17
  |2,hi=>cases hi;simp at h17
  |3,hi=>cases hi;exact hl6
  |i+4,hi=>simp[dropBlk]at hi
 ·simp only[dropBlk,List.mem_cons,List.not_mem_nil,or_false]at hx
  rcases hx with rfl|rfl|rfl|rfl
  all_goals first
   |exact absurd rfl hxe
   |(simp only;rw[hl6];rfl)
 ·simp only[dropBlk,List.mem_cons,List.not_mem_nil,or_false]at hx
  rcases hx with rfl|rfl|rfl|rfl
  all_goals first
   |exact .inl rfl
   |exact .inr ⟨k+1,by omega,by omega,o1⟩
theorem cblk_fine{f:Nat}(h1:1≤f)(h4:f≤4)(tn:Nat)(ht:tn<8)(k:Nat)(hk:k+3<128)(x:COp)(hx:∀n,x=.put n→1≤n∧n≤1000):BlkF k (k+cinc x) (cblk f tn k x):=by
 cases x with
 |enter=>exact part_fine h1 h4 (by decide) k (by omega)
 |leave=>exact part_fine h1 h4 (by decide) k (by omega)
 |rest=>exact part_fine h1 h4 (by decide) k (by omega)
 |wait=>exact part_fine h1 h4 (by decide) k (by omega)
 |read=>exact read_fine k
 |put n=>exact put_fine n (hx n rfl) k (by omega)
 |drop=>exact drop_fine k (by omega)
 |later=>exact later_fine tn 1 ht (by omega) k (by omega)
 |flush=>exact flushBlk_fine h1 h4 tn 1 ht (by omega) k (by omega)
theorem copsCode_fine{f:Nat}(h1:1≤f)(h4:f≤4)(tn:Nat)(ht:tn<8):∀(l:List COp) (k:Nat),(∀n,COp.put n∈l→1≤n∧n≤1000)→k+clabs l+3<128→BlkF k (k+clabs l) (copsCode f tn k l)
 |[],k,_,_=>by simpa[copsCode,clabs]using BlkF.nil k
 |x :: l,k,hp,hk=>by
  simp only[clabs]at hk
  have ih:=copsCode_fine h1 h4 tn ht l (k+cinc x) (fun n hn=>hp n (List.mem_cons_of_mem _ hn)) (by omega)
  have hb:=cblk_fine h1 h4 tn ht k (by omega) x (fun n hn=>hp n (by rw[hn];simp))
  have:=hb.append ih (by omega) (by omega)
  simp only[clabs,copsCode]
  rw[show k+(cinc x+clabs l)=k+cinc x+clabs l by omega]
  exact this
theorem ccode_fine{f:Nat}(h1:1≤f)(h4:f≤4)(tn:Nat)(ht:tn<8){l:List COp}(h20:l.length≤20)(hp:∀n,COp.put n∈l→1≤n∧n≤1000):CodeFine (ccode f tn l):=by
 have hl:=clabs_le l
 have hc:=copsCode_len h4 tn l 0
 have hg:=part_len2 h4 (show 3<5 by decide) (clabs l)
 have h:=copsCode_fine h1 h4 tn ht l 0 hp (by omega)
 rw[Nat.zero_add]at h
 have h2:=(h.append (part_fine h1 h4 (show 3<5 by decide) (clabs l) (by omega)) (by omega) (by omega)).append (stop_fine _) (by omega) (by omega)
 exact h2.fine (by simp only[List.length_append,List.length_singleton];omega)
end Qc
end
section
namespace Qk
open Qs Qg Qo Qc Qh Go.Proofs.YtppihkneeolomaaGreatDoor
open Qu (labN)
abbrev An:=Pos × Fl
def zA:An:=(.fin,⟨true,0⟩)
structure LineB(K:Ck)(t:Nat)(B:List Instr)(a:List An)(q:An)(i:Nat)(x:Instr):Prop where
 at_:x.op=20∨(a.getD i zA).1=.dead∨
  (insOf K.X.f (a.getD i zA).1=some (x.op,x.A,x.B,x.C)∧(14≤x.op→x.op≤16→∃j,labelAt x.to B 0=some j∧j<a.length∧a.getD j zA=(tgtOf (a.getD i zA).1,(a.getD i zA).2))∧
   (x.op≠16→NextF K.X.f (a.getD i zA).1 ((a++[q]).getD (i+1) zA).1 (a.getD i zA).2 ((a++[q]).getD (i+1) zA).2))∨
  ∃c d,(a.getD i zA).1=.cl c d∧d<100∧K.insC t c (x.op,x.A,x.B,x.C)∧(x.op≠16→nextC K.X.f d (a.getD i zA).2 ((a++[q]).getD (i+1) zA).1 ((a++[q]).getD (i+1) zA).2 c)∧
   (14≤x.op→x.op≤16→∃j,labelAt x.to B 0=some j∧j<a.length∧jumpC d (a.getD i zA).2 (a.getD j zA).1 (a.getD j zA).2 c)
variable {K:Ck}{t:Nat}{code B:List Instr}{a:List An}{q:An}{ann:Nat→An}{b:Nat}
theorem lines_of(I:InRow code b B)(hl:B.length=a.length)(ha:∀i,i≤a.length→ann (b+i)=(a++[q]).getD i zA)(h:∀(i:Nat) x,B[i]?=some x→LineB K t B a q i x)(i:Nat){x:Instr}(hx:B[i]?=some x):LineH K t code ann (b+i) x:=by
 have hm:=List.mem_of_getElem? hx
 have hlt:i<a.length:=by rw[←hl];exact (List.getElem?_eq_some_iff.1 hx).1
 have hin:∀j,j<a.length→ann (b+j)=a.getD j zA:=fun j hj=>by
  rw[ha j (by omega)]
  simp only[List.getD,List.getElem?_append_left hj]
 have hi:=hin i hlt
 have hn:=ha (i+1) (by omega)
 refine ⟨I.ip x hm,?_⟩
 rw[hi,show b+i+1=b+(i+1) by omega,hn]
 rcases (h i x hx).at_ with h|h|⟨h1,h2,h3⟩|⟨c,d,h1,h2,h3,h4,h5⟩
 ·exact .inl h
 ·exact .inr (.inl h)
 ·refine .inr (.inr (.inl ⟨h1,fun g1 g2=>?_,h3⟩))
  obtain ⟨j,j1,j2,j3⟩:=h2 g1 g2
  obtain ⟨j',k1,k2⟩:=I.jmp x hm g1 g2
  rw[j1]at k1
  cases k1
  exact ⟨b+j,k2,by rw[hin j j2];exact j3⟩
 ·refine .inr (.inr (.inr ⟨c,d,h1,h2,h3,h4,fun g1 g2=>?_⟩))
  obtain ⟨j,j1,j2,j3⟩:=h5 g1 g2
  obtain ⟨j',k1,k2⟩:=I.jmp x hm g1 g2
  rw[j1]at k1
  cases k1
  exact ⟨b+j,k2,by rw[hin j j2];exact j3⟩
def rngH(a b:Nat)(g:Nat→Pos):List Pos:=(List.range (b - a)).map fun i=>g (a+i)
def entH(f d:Nat):List Pos:=
 if f=1 then rngH 0 13 (.ent d)else if f=2 then rngH 0 11 (.ent d)++[.ent d 12]else if f=3 then []else
  if d=0 then rngH 0 4 (.jh 0)++rngH 0 7 (.tk 0)++rngH 0 5 .jc++rngH 0 3 (.gv 0)++[.jk 0]++rngH 0 13 (.ent 0)
  else rngH 0 3 (.jh d)++List.replicate 16 .dead++[.jk d]++rngH 0 13 (.ent d)
def leaH(f d:Nat):List Pos:=if f=2 then rngH 1 5 (.lea d)else if f=3 then []else rngH 0 5 (.lea d)
def resH(f:Nat):List Pos:=if f=3 then rngH 0 3 .rs else []
def goneH(f:Nat):List Pos:=if f=3 then rngH 0 3 .gn else []
def turnH(g:Bool):List Pos:=rngH 0 8 (.wn g)++rngH 8 21 (.wx g)++rngH 21 23 (.wn g)
def waitH(f:Nat):List Pos:=
 if f=3 then rngH 0 3 .ca++rngH 0 7 (.tk 2)++rngH 0 8 .cs++rngH 8 16 .cx++rngH 16 18 .cs++rngH 0 3 (.gv 2)++rngH 0 3 .cr
 else [.wb]++rngH 0 7 (.tk 1)++turnH false++turnH true++[.we]++rngH 0 3 (.gv 1)
def partH(f d:Nat):Nat→List Pos
 |0=>entH f d
 |1=>leaH f d
 |2=>resH f
 |3=>goneH f
 |_=>waitH f
def outH(f d:Nat):Nat→Nat
 |0=>d+1
 |1=>d - 1
 |_=>0
def lineG(f:Nat)(w:Bool)(g:Bool)(o:Nat)(B:List Instr)(a:List Pos)(i:Nat)(x:Instr):Bool:=
 (a.getD i .fin==.dead)||(decide (insOf f (a.getD i .fin)=some (x.op,x.A,x.B,x.C))&&(!(decide (14≤x.op)&&decide (x.op≤16))||match labelAt x.to B 0 with
  |some j=>decide (j<a.length)&&(a.getD j .fin==tgtOf (a.getD i .fin))
  |none=>false)&&(decide (x.op=16)||match fallOf f (a.getD i .fin)with
  |some q=>decide (i+1<a.length)&&(a.getD (i+1) .fin==q)&&genQ q
  |none=>decide (i+1=a.length)&&decide (f=3∨dOut (a.getD i .fin)=o)&&(!w||wEnd (a.getD i .fin))&&(g||a.getD i .fin != .gn 2)))
def blkG(f d j:Nat):Bool:=decide ((gcode f j).length=(partH f d j).length)&&(List.range (gcode f j).length).all fun i=>match (gcode f j)[i]? with
 |some x=>lineG f (j==4) (j==3) (outH f d j) (gcode f j) (partH f d j) i x
 |none=>true
theorem blkG_tab:((List.range 5).all fun f=>(List.range 22).all fun d=>(List.range 5).all fun j=>(f==0)||(j==1&&d==0)||(decide (2≤j)&&d != 0)||blkG f d j)=true:=by decide +kernel
theorem blkG_all(f:Nat)(hf:f<5)(d:Nat)(hd:d<22)(j:Nat)(hj:j<5)(h1:1≤f)(h2:j=1→0<d)(h3:2≤j→d=0):blkG f d j=true:=by
 have:=List.all_eq_true.1 (List.all_eq_true.1 (List.all_eq_true.1 blkG_tab f (List.mem_range.2 hf)) d (List.mem_range.2 hd)) j (List.mem_range.2 hj)
 simp only[Bool.or_eq_true,Bool.and_eq_true,beq_iff_eq,decide_eq_true_eq,bne_iff_ne]at this
 rcases this with ((g|g)|g)|g
 ·omega
 ·have:=h2 g.1;omega
 ·exact absurd (h3 g.1) g.2
 ·exact g
end Qk
end
section
namespace Qk
open Qs Qg Qo Qc Qh Go.Proofs.YtppihkneeolomaaGreatDoor
open Qu (labN)
variable {K:Ck}{t f d k:Nat}{code B:List Instr}{a:List An}{q:An}{ann:Nat→An}{b:Nat}{F:Fl}
structure HeadP(f d j:Nat)(F:Fl)(q:An):Prop where
 gq:genQ q.1=true∨(∃d,q.1=.cl 40 d)∧2≤q.2.g
 st:∃d',startD f q.1=some d'∧d'<100∧(f≠3→d'=outH f d j)
 gn:j=3→q.1=.fin
 r:q.2.r=false→F.r=false
 g:q.2.g≤F.g∨j=4
theorem map_get(l:List Pos)(F:Fl)(i:Nat)(hi:i<l.length):(l.map fun p=>(p,F)).getD i zA=(l.getD i .fin,F):=by
 simp[List.getD,List.getElem?_map,List.getElem?_eq_getElem hi]
theorem map_app(l:List Pos)(F:Fl)(q:An)(i:Nat):((l.map fun p=>(p,F))++[q]).getD i zA=if i<l.length then (l.getD i .fin,F)else if i=l.length then q else zA:=by
 by_cases h:i<l.length
 ·rw[if_pos h,List.getD,List.getElem?_append_left (by simpa using h)]
  simp[List.getElem?_map,List.getElem?_eq_getElem h,List.getD]
 ·rw[if_neg h,List.getD,List.getElem?_append_right (by simpa using h)]
  by_cases e:i=l.length
  ·rw[if_pos e,e];simp
  ·rw[if_neg e]
   have:i - (l.map fun p=>((p,F):An)).length≠0:=by simp;omega
   obtain ⟨n,hn⟩:∃n,i - (l.map fun p=>((p,F):An)).length=n+1:=⟨_,(Nat.succ_pred_eq_of_ne_zero this).symm⟩
   rw[hn];rfl
theorem part_lines{j:Nat}(h1:1≤f)(h4:f≤4)(hf:K.X.f=f)(hd:d<22)(hj:j<5)(hj1:j=1→0<d)(hj2:2≤j→d=0)(H:HeadP f d j F q) :
  (part f k j).length=((partH f d j).map fun p=>((p,F):An)).length∧∀(i:Nat) x,(part f k j)[i]?=some x→LineB K t (part f k j) ((partH f d j).map fun p=>((p,F):An)) q i x:=by
 have hb:=blkG_all f (by omega) d hd j hj h1 hj1 hj2
 unfold blkG at hb
 simp only[Bool.and_eq_true,decide_eq_true_eq,List.all_eq_true]at hb
 obtain ⟨hlen,hb⟩:=hb
 have hpl:(part f k j).length=(gcode f j).length:=by unfold part preC;rw[List.length_map]
 refine ⟨by rw[hpl,hlen,List.length_map],fun i x hx=>⟨?_⟩⟩
 have hlt:i<(gcode f j).length:=by rw[←hpl];exact (List.getElem?_eq_some_iff.1 hx).1
 have hg:=hb i (List.mem_range.2 hlt)
 obtain ⟨x0,hx0⟩:∃x0,(gcode f j)[i]?=some x0:=⟨_,List.getElem?_eq_getElem hlt⟩
 rw[hx0]at hg
 simp only at hg
 have hxe:x=preI (labN (k+1)) x0:=by
  unfold part preC at hx
  rw[List.getElem?_map,hx0]at hx
  exact (Option.some.inj hx).symm
 have hi:i<(partH f d j).length:=by omega
 rw[map_get _ _ _ hi,map_app]
 unfold lineG at hg
 rw[Bool.or_eq_true]at hg
 rcases hg with hg|hg
 ·exact .inr (.inl (by simpa using hg))
 ·simp only[Bool.and_eq_true,decide_eq_true_eq,Bool.or_eq_true,Bool.not_eq_true']at hg
  obtain ⟨⟨g1,g2⟩,g3⟩:=hg
  have hop:x.op=x0.op∧x.A=x0.A∧x.B=x0.B∧x.C=x0.C:=by rw[hxe];exact ⟨rfl,rfl,rfl,rfl⟩
  refine .inr (.inr (.inl ⟨?_,fun a1 a2=>?_,fun a3=>?_⟩))
  ·rw[hf,hop.1,hop.2.1,hop.2.2.1,hop.2.2.2];exact g1
  ·rw[hop.1]at a1 a2
   rcases g2 with g2|g2
   ·exfalso
    rw[Bool.and_eq_false_iff]at g2
    rcases g2 with g2|g2
    ·exact absurd a1 (by simpa using g2)
    ·exact absurd a2 (by simpa using g2)
   ·cases e:labelAt x0.to (gcode f j) 0 with
    |none=>rw[e]at g2;cases g2
    |some n=>
     rw[e]at g2
     simp only[Bool.and_eq_true,decide_eq_true_eq,beq_iff_eq]at g2
     have hall:=List.all_eq_true.1 (okJ_g f (by omega) j hj)
     have hm0:=List.mem_of_getElem? hx0
     have hne:x0.to≠[]:=by
      have:=hall x0 hm0
      simp only[Bool.or_eq_true,Bool.not_eq_true',Bool.and_eq_false_iff,decide_eq_false_iff_not]at this
      rcases this with (h|h)|h
      ·omega
      ·omega
      ·simpa using h
     have h17:∀y∈gcode f j,y.op=17→y.to≠[]:=fun y hy g=>by
      have:=hall y hy
      rw[g]at this
      simpa using this
     refine ⟨n,?_,by rw[List.length_map];exact g2.1,by rw[map_get _ _ _ g2.1,g2.2]⟩
     have:x.to=labN (k+1)++x0.to:=by rw[hxe];unfold preI;simp only;rw[if_neg (by simpa using hne)]
     rw[this]
     unfold part
     rw[lab_pre h17 hne];exact e
  ·rw[hop.1]at a3
   have g3:=g3.resolve_left a3
   rw[hf]
   cases e:fallOf f ((partH f d j).getD i .fin)with
   |some q'=>
    rw[e]at g3
    simp only[Bool.and_eq_true,decide_eq_true_eq,beq_iff_eq]at g3
    obtain ⟨⟨k1,k2⟩,k3⟩:=g3
    rw[if_pos k1]
    refine ⟨?_,.inl (by simp only;rw[k2];exact k3),fun h=>h,.inl (Nat.le_refl _)⟩
    unfold NextOk
    rw[e]
    exact k2
   |none=>
    rw[e]at g3
    simp only[Bool.and_eq_true,decide_eq_true_eq,Bool.or_eq_true,Bool.not_eq_true',bne_iff_ne]at g3
    obtain ⟨⟨⟨k1,k2⟩,k3⟩,k4⟩:=g3
    rw[if_neg (by omega),if_pos k1]
    refine ⟨?_,H.gq,H.r,H.g.imp id fun hj4=>?_⟩
    ·unfold NextOk
     rw[e]
     obtain ⟨d',s1,s2,s3⟩:=H.st
     refine ⟨d',s1,s2,fun h3=>by rw[s3 h3];exact (k2.resolve_left h3).symm,fun hgn=>H.gn ?_⟩
     rcases k4 with k4|k4
     ·simpa using k4
     ·exact absurd hgn k4
    ·rcases k3 with k3|k3
     ·rw[hj4]at k3;cases k3
     ·exact k3
abbrev Seg:=List Instr × List An
inductive SegsOk (K:Ck) (t:Nat):Nat→Nat→List Seg→An→Prop where
 |nil (k:Nat) (q:An):SegsOk K t k k [] q
 |cons {k k' n:Nat} {B:List Instr} {a:List An} {r:List Seg} {q:An}:k≤k'→k'≤n→BlkF k k' B→B.length=a.length→(∀(i:Nat) x,B[i]?=some x→LineB K t B a (((r.map (·.2)).flatten++[q]).getD 0 zA) i x)→SegsOk K t k' n r q→SegsOk K t k n ((B,a) :: r) q
theorem SegsOk.le{k n:Nat}{r:List Seg}{q:An}(h:SegsOk K t k n r q):k≤n:=by
 induction h with
 |nil=>exact Nat.le_refl _
 |cons h1 h2 _ _ _ _ _=>omega
theorem SegsOk.append{k m n:Nat}{r r':List Seg}{q:An}(h:SegsOk K t k m r ((((r').map (·.2)).flatten++[q]).getD 0 zA))(h':SegsOk K t m n r' q):SegsOk K t k n (r++r') q:=by
 generalize hq:(((r').map (·.2)).flatten++[q]).getD 0 zA=q0 at h
 induction h with
 |nil=>exact h'
 |cons a1 a2 a3 a4 a5 a6 ih=>
  have:=ih h' hq
  refine .cons a1 this.le a3 a4 (fun i x hx=>?_) this
  have h5:=a5 i x hx
  rename_i r0 q1
  have e:(((r0++r').map (·.2)).flatten++[q]).getD 0 zA=((r0.map (·.2)).flatten++[q1]).getD 0 zA:=by
   rw[List.map_append,List.flatten_append,List.append_assoc]
   cases hfl:(r0.map (·.2)).flatten with
   |nil=>rw[List.nil_append,List.nil_append,hq];rfl
   |cons y l=>rfl
  show LineB K t _ _ ((((r0++r').map (·.2)).flatten++[q]).getD 0 zA) i x
  rw[e];exact h5
theorem segs_lines:∀ {k n:Nat} {r:List Seg} {q:An},SegsOk K t k n r q→∀ {A:List Instr} {aA:List An} {R:List Instr} {aR:List An},BlkF 0 k A→A.length=aA.length→aR.getD 0 zA=q→code=A++((r.map (·.1)).flatten++R)→(ann=fun i=>(aA++((r.map (·.2)).flatten++aR)).getD i zA)→
  ∀(i:Nat) x,A.length≤i→i<A.length+(r.map (·.1)).flatten.length→code[i]?=some x→LineH K t code ann i x:=by
 intro k n r q h
 induction h with
 |nil=>intro A aA R aR _ _ _ _ _ i x h1 h2;simp at h2;omega
 | @cons k k' n B a r q a1 a2 a3 a4 a5 a6 ih=>
  intro A aA R aR hA hl hq hc ha i x h1 h2 hx
  simp only[List.map_cons,List.flatten_cons]at hc ha h2
  rw[List.append_assoc]at hc ha
  by_cases hi:i<A.length+B.length
  ·obtain ⟨e,rfl⟩:∃e,i=A.length+e:=⟨i - A.length,by omega⟩
   have I:InRow code A.length B:=by rw[hc];exact inRow_of hA a3
   have hxB:B[e]?=some x:=by
    rw[hc,List.getElem?_append_right (by omega),List.getElem?_append_left (by omega)]at hx
    rw[show A.length+e - A.length=e by omega]at hx
    exact hx
   refine lines_of I a4 (fun i' hi'=>?_) a5 e hxB
   rw[ha]
   simp only
   rw[hl,List.getD,List.getElem?_append_right (by omega),show aA.length+i' - aA.length=i' by omega]
   by_cases hi2:i'<a.length
   ·rw[List.getElem?_append_left hi2]
    show _=((a++[_])[i']?).getD zA
    rw[List.getElem?_append_left hi2]
   ·obtain rfl:i'=a.length:=by omega
    rw[List.getElem?_append_right (Nat.le_refl _)]
    show _=((a++[_])[a.length]?).getD zA
    rw[List.getElem?_append_right (Nat.le_refl _),Nat.sub_self]
    show _=((r.map (·.2)).flatten++[q]).getD 0 zA
    cases hfl:(r.map (·.2)).flatten with
    |nil=>rw[List.nil_append,List.nil_append];exact hq
    |cons y l=>rfl
  ·have hle:=a6.le
   refine ih (A:=A++B) (aA:=aA++a) (R:=R) (aR:=aR) (hA.append a3 (by omega) (by omega)) (by rw[List.length_append,List.length_append,hl,a4]) hq (by rw[hc];simp only[List.append_assoc]) (by rw[ha];simp only[List.append_assoc]) i x (by rw[List.length_append];omega) (by rw[List.length_append]at h2 ⊢;omega) hx
end Qk
end
namespace Go.Proofs.YtppihkneeolomaaGreatDoor
section
open Go.RowKit Qs Qh Qc
variable {s:CSt}{n:Int}
theorem cfo_enter:cfOp s (kEnter,0)=(0,{s with d:=s.d+1}):=by
 unfold cfOp
 rw[if_neg (fun h=>h.elim (fun e=>absurd (show memK kindsC kEnter=false from e) (by decide +kernel)) (fun e=>e.2 rfl)),if_neg (fun h=>absurd (show kEnter=kPut from h.1) (by decide)),if_pos rfl]
theorem cfo_leave:cfOp s (kLeave,0)=if s.d=0 then (8,s)else (0,{s with d:=s.d - 1}):=by
 unfold cfOp
 rw[if_neg (fun h=>h.elim (fun e=>absurd (show memK kindsC kLeave=false from e) (by decide +kernel)) (fun e=>e.2 rfl)),if_neg (fun h=>absurd (show kLeave=kPut from h.1) (by decide)),if_neg (show ¬(kLeave=kEnter) by decide),if_pos rfl]
theorem cfo_rest:cfOp s (kRest,0)=if s.d≠0 then (8,s)else (0,{s with w:=s.w||decide (kRest≠kRest)}):=by
 unfold cfOp
 rw[if_neg (fun h=>h.elim (fun e=>absurd (show memK kindsC kRest=false from e) (by decide +kernel)) (fun e=>e.2 rfl)),if_neg (fun h=>absurd (show kRest=kPut from h.1) (by decide)),if_neg (show ¬(kRest=kEnter) by decide),if_neg (show ¬(kRest=kLeave) by decide),if_pos (show kRest=kRest∨kRest=kWait∨kRest=kFlush by decide)]
theorem cfo_wait:cfOp s (kWait,0)=if s.d≠0 then (8,s)else (0,{s with w:=s.w||decide (kWait≠kRest)}):=by
 unfold cfOp
 rw[if_neg (fun h=>h.elim (fun e=>absurd (show memK kindsC kWait=false from e) (by decide +kernel)) (fun e=>e.2 rfl)),if_neg (fun h=>absurd (show kWait=kPut from h.1) (by decide)),if_neg (show ¬(kWait=kEnter) by decide),if_neg (show ¬(kWait=kLeave) by decide),if_pos (show kWait=kRest∨kWait=kWait∨kWait=kFlush by decide)]
theorem cfo_flush:cfOp s (kFlush,0)=if s.d≠0 then (8,s)else (0,{s with w:=s.w||decide (kFlush≠kRest)}):=by
 unfold cfOp
 rw[if_neg (fun h=>h.elim (fun e=>absurd (show memK kindsC kFlush=false from e) (by decide +kernel)) (fun e=>e.2 rfl)),if_neg (fun h=>absurd (show kFlush=kPut from h.1) (by decide)),if_neg (show ¬(kFlush=kEnter) by decide),if_neg (show ¬(kFlush=kLeave) by decide),if_pos (show kFlush=kRest∨kFlush=kWait∨kFlush=kFlush by decide)]
theorem cfo_read:cfOp s (kRead,0)=if s.d=0 then (8,s)else (0,s):=by
 unfold cfOp
 rw[if_neg (fun h=>h.elim (fun e=>absurd (show memK kindsC kRead=false from e) (by decide +kernel)) (fun e=>e.2 rfl)),if_neg (fun h=>absurd (show kRead=kPut from h.1) (by decide)),if_neg (show ¬(kRead=kEnter) by decide),if_neg (show ¬(kRead=kLeave) by decide),if_neg (show ¬(kRead=kRest∨kRead=kWait∨kRead=kFlush) by decide),if_pos rfl]
theorem cfo_drop:cfOp s (kDrop,0)=if s.r=false then (5,s)else (0,{s with r:=false,u:=s.u||(decide (kDrop=kDrop) && !s.w)}):=by
 unfold cfOp
 rw[if_neg (fun h=>h.elim (fun e=>absurd (show memK kindsC kDrop=false from e) (by decide +kernel)) (fun e=>e.2 rfl)),if_neg (fun h=>absurd (show kDrop=kPut from h.1) (by decide)),if_neg (show ¬(kDrop=kEnter) by decide),if_neg (show ¬(kDrop=kLeave) by decide),if_neg (show ¬(kDrop=kRest∨kDrop=kWait∨kDrop=kFlush) by decide),if_neg (show ¬(kDrop=kRead) by decide),if_neg (show ¬(kDrop=kPut) by decide)]
theorem cfo_later:cfOp s (kLater,0)=if s.r=false then (5,s)else (0,{s with r:=false,u:=s.u||(decide (kLater=kDrop) && !s.w)}):=by
 unfold cfOp
 rw[if_neg (fun h=>h.elim (fun e=>absurd (show memK kindsC kLater=false from e) (by decide +kernel)) (fun e=>e.2 rfl)),if_neg (fun h=>absurd (show kLater=kPut from h.1) (by decide)),if_neg (show ¬(kLater=kEnter) by decide),if_neg (show ¬(kLater=kLeave) by decide),if_neg (show ¬(kLater=kRest∨kLater=kWait∨kLater=kFlush) by decide),if_neg (show ¬(kLater=kRead) by decide),if_neg (show ¬(kLater=kPut) by decide)]
theorem cfo_put0:cfOp s (kPut,n)=if n<1∨1000<n then (2,s)else if s.d≠0∨s.r=true then (8,s)else (0,{s with r:=true,w:=false}):=by
 have c1:¬(memK kindsC kPut=false∨(kPut≠kPut∧n≠0)):=fun h=>h.elim (fun e=>absurd e (by decide +kernel)) (fun e=>e.1 rfl)
 unfold cfOp
 by_cases c2:n<1∨1000<n
 ·rw[if_neg c1,if_pos ⟨rfl,c2⟩,if_pos c2]
 ·rw[if_neg c1,if_neg (fun h=>c2 h.2),if_neg (show ¬(kPut=kEnter) by decide),if_neg (show ¬(kPut=kLeave) by decide),if_neg (show ¬(kPut=kRest∨kPut=kWait∨kPut=kFlush) by decide),if_neg (show ¬(kPut=kRead) by decide),if_pos rfl,if_neg c2]
theorem cfo_put(h:(cfOp s (kPut,n)).1=0):(1≤n∧n≤1000)∧s.d=0∧s.r=false∧cfOp s (kPut,n)=(0,{s with r:=true,w:=false}):=by
 rw[cfo_put0]at h ⊢
 by_cases c2:n<1∨1000<n
 ·rw[if_pos c2]at h;cases h
 ·rw[if_neg c2]at h ⊢
  by_cases c3:s.d≠0∨s.r=true
  ·rw[if_pos c3]at h;cases h
  ·rw[if_neg c3]
   refine ⟨by omega,Classical.byContradiction fun e=>c3 (.inl e),?_,rfl⟩
   cases e:s.r with
   |false=>rfl
   |true=>exact absurd (.inr e) c3
end
end Go.Proofs.YtppihkneeolomaaGreatDoor
section
namespace Qk
open Qs Qg Qo Qc Qh Go.Proofs.YtppihkneeolomaaGreatDoor
open Qu (labN)
variable {K:Ck}{t f d k:Nat}{code B:List Instr}{a:List An}{q:An}{ann:Nat→An}{b:Nat}{F:Fl}{s s':CSt}{p e:List UInt8}{n:Int}
def fOf(s:CSt):Fl:=⟨s.r,if s.r&&s.w then 1 else 0⟩
def pf(F:Fl)(l:List Pos):List An:=l.map fun p=>(p,F)
theorem mono_refl(F:Fl):Mono F F:=⟨id,Nat.le_refl _⟩
theorem l_read(hd:d<100)(hd0:0<d)(H:Beg2 K.X.f d q.1 F q.2):∀(i:Nat) x,(readBlk)[i]?=some x→LineB K t (readBlk) (pf F [.cl 0 d,.cl 1 d,.cl 2 d,.cl 3 d]) q i x:=fun i x hx=>by
 match i,hx with
 |0,hx=>cases hx;exact ⟨.inr (.inr (.inr ⟨0,d,rfl,hd,rfl,fun _=>⟨rfl,hd0,mono_refl F⟩,fun a b=>by simp at a b⟩))⟩
 |1,hx=>cases hx;exact ⟨.inr (.inr (.inr ⟨1,d,rfl,hd,rfl,fun _=>⟨rfl,mono_refl F⟩,fun a b=>by simp at a b⟩))⟩
 |2,hx=>cases hx;exact ⟨.inr (.inr (.inr ⟨2,d,rfl,hd,rfl,fun _=>⟨rfl,mono_refl F⟩,fun a b=>by simp at a b⟩))⟩
 |3,hx=>cases hx;exact ⟨.inr (.inr (.inr ⟨3,d,rfl,hd,rfl,fun _=>H,fun a b=>by simp at a b⟩))⟩
 |i+4,hx=>simp[readBlk,putBlkC,dropBlk,laterBlk,flushTail]at hx
theorem l_put(hr:F.r=false)(hV:K.V n)(H:Beg2 K.X.f 0 q.1 ⟨true,0⟩ q.2):∀(i:Nat) x,(putBlkC p n)[i]?=some x→LineB K t (putBlkC p n) ((.cl 10 0,F) :: pf ⟨true,0⟩ [.cl 11 0,.cl 12 0,.cl 13 0,.cl 14 0,.cl 15 0,.cl 16 0]) q i x:=fun i x hx=>by
 match i,hx with
 |0,hx=>cases hx;exact ⟨.inr (.inr (.inr ⟨10,0,rfl,by decide,rfl,fun _=>⟨rfl,hr,rfl⟩,fun a b=>by simp at a b⟩))⟩
 |1,hx=>cases hx;exact ⟨.inr (.inr (.inr ⟨11,0,rfl,by decide,rfl,fun _=>⟨rfl,rfl⟩,fun _ _=>⟨6,by simp[putBlkC,labelAt],by simp[pf],rfl,rfl⟩⟩))⟩
 |2,hx=>cases hx;exact ⟨.inr (.inr (.inr ⟨12,0,rfl,by decide,⟨n,rfl,hV⟩,fun _=>⟨rfl,rfl⟩,fun a b=>by simp at a b⟩))⟩
 |3,hx=>cases hx;exact ⟨.inr (.inr (.inr ⟨13,0,rfl,by decide,rfl,fun _=>⟨rfl,rfl⟩,fun a b=>by simp at a b⟩))⟩
 |4,hx=>cases hx;exact ⟨.inr (.inr (.inr ⟨14,0,rfl,by decide,rfl,fun _=>⟨rfl,rfl⟩,fun a b=>by simp at a b⟩))⟩
 |5,hx=>cases hx;exact ⟨.inr (.inr (.inr ⟨15,0,rfl,by decide,rfl,fun _=>⟨rfl,rfl,rfl⟩,fun a b=>by simp at a b⟩))⟩
 |6,hx=>cases hx;exact ⟨.inr (.inr (.inr ⟨16,0,rfl,by decide,rfl,fun _=>H,fun a b=>by simp at a b⟩))⟩
 |i+7,hx=>simp[readBlk,putBlkC,dropBlk,laterBlk,flushTail]at hx
theorem l_drop(hd:d<100)(hg:1≤F.g)(H:Beg2 K.X.f d q.1 ⟨false,0⟩ q.2):∀(i:Nat) x,(dropBlk p)[i]?=some x→LineB K t (dropBlk p) (pf F [.cl 20 d,.cl 21 d,.cl 22 d]++[(.cl 23 d,⟨false,0⟩)]) q i x:=fun i x hx=>by
 match i,hx with
 |0,hx=>cases hx;exact ⟨.inr (.inr (.inr ⟨20,d,rfl,hd,rfl,fun _=>⟨rfl,Nat.le_refl _⟩,fun _ _=>⟨3,by simp[dropBlk,labelAt],by simp[pf],rfl,Nat.zero_le _⟩⟩))⟩
 |1,hx=>cases hx;exact ⟨.inr (.inr (.inr ⟨21,d,rfl,hd,rfl,fun _=>⟨rfl,Nat.le_refl _,hg⟩,fun a b=>by simp at a b⟩))⟩
 |2,hx=>cases hx;exact ⟨.inr (.inr (.inr ⟨22,d,rfl,hd,rfl,fun _=>⟨rfl,Nat.zero_le _⟩,fun a b=>by simp at a b⟩))⟩
 |3,hx=>cases hx;exact ⟨.inr (.inr (.inr ⟨23,d,rfl,hd,rfl,fun _=>H,fun a b=>by simp at a b⟩))⟩
 |i+4,hx=>simp[readBlk,putBlkC,dropBlk,laterBlk,flushTail]at hx
theorem l_later(hd:d<100)(hlw:K.lw t=t % 4)(hnx:K.nx=1)(H:Beg2 K.X.f d q.1 ⟨false,0⟩ q.2):∀(i:Nat) x,(laterBlk p t 1)[i]?=some x→LineB K t (laterBlk p t 1) (pf F [.cl 30 d,.cl 31 d,.cl 32 d,.cl 33 d,.cl 34 d]++pf ⟨false,0⟩ [.cl 35 d,.cl 36 d]) q i x:=fun i x hx=>by
 match i,hx with
 |0,hx=>cases hx;exact ⟨.inr (.inr (.inr ⟨30,d,rfl,hd,rfl,fun _=>⟨rfl,Nat.le_refl _⟩,fun _ _=>⟨6,by simp[laterBlk,labelAt],by simp[pf],rfl,Nat.zero_le _⟩⟩))⟩
 |1,hx=>cases hx;exact ⟨.inr (.inr (.inr ⟨31,d,rfl,hd,rfl,fun _=>⟨rfl,Nat.le_refl _⟩,fun a b=>by simp at a b⟩))⟩
 |2,hx=>cases hx;exact ⟨.inr (.inr (.inr ⟨32,d,rfl,hd,by rw[←hlw];exact rfl,fun _=>⟨rfl,Nat.le_refl _⟩,fun a b=>by simp at a b⟩))⟩
 |3,hx=>cases hx;exact ⟨.inr (.inr (.inr ⟨33,d,rfl,hd,by show _=(7,3,0,(K.nx:Int));rw[hnx];rfl,fun _=>⟨rfl,Nat.le_refl _⟩,fun a b=>by simp at a b⟩))⟩
 |4,hx=>cases hx;exact ⟨.inr (.inr (.inr ⟨34,d,rfl,hd,by rw[←hlw];exact rfl,fun _=>⟨rfl,rfl⟩,fun a b=>by simp at a b⟩))⟩
 |5,hx=>cases hx;exact ⟨.inr (.inr (.inr ⟨35,d,rfl,hd,rfl,fun _=>⟨rfl,Nat.zero_le _⟩,fun a b=>by simp at a b⟩))⟩
 |6,hx=>cases hx;exact ⟨.inr (.inr (.inr ⟨36,d,rfl,hd,rfl,fun _=>H,fun a b=>by simp at a b⟩))⟩
 |i+7,hx=>simp[readBlk,putBlkC,dropBlk,laterBlk,flushTail]at hx
theorem l_flush(hg:2≤F.g)(hpe:p≠e)(hlw:K.lw t=t % 4)(hnx:K.nx=1)(H:Beg2 K.X.f 0 q.1 F q.2):∀(i:Nat) x,(flushTail p e t 1)[i]?=some x→LineB K t (flushTail p e t 1) (pf F [.cl 40 0,.cl 41 0,.cl 42 0,.cl 43 0,.cl 44 0,.cl 45 0,.cl 46 0,.cl 47 0,.cl 48 0]) q i x:=fun i x hx=>by
 match i,hx with
 |0,hx=>cases hx;exact ⟨.inr (.inr (.inr ⟨40,0,rfl,by decide,rfl,fun _=>⟨rfl,mono_refl F,hg⟩,fun a b=>by simp at a b⟩))⟩
 |1,hx=>cases hx;exact ⟨.inr (.inr (.inr ⟨41,0,rfl,by decide,rfl,fun _=>⟨rfl,mono_refl F,hg⟩,fun a b=>by simp at a b⟩))⟩
 |2,hx=>cases hx;exact ⟨.inr (.inr (.inr ⟨42,0,rfl,by decide,by rw[←hlw];exact rfl,fun _=>⟨rfl,mono_refl F,hg⟩,fun a b=>by simp at a b⟩))⟩
 |3,hx=>cases hx;exact ⟨.inr (.inr (.inr ⟨43,0,rfl,by decide,rfl,fun _=>⟨rfl,mono_refl F,hg⟩,fun _ _=>⟨8,by simp[flushTail,labelAt,hpe],by simp[pf],rfl,mono_refl F⟩⟩))⟩
 |4,hx=>cases hx;exact ⟨.inr (.inr (.inr ⟨44,0,rfl,by decide,by show _=(6,1,0,(K.nx:Int));rw[hnx];rfl,fun _=>⟨rfl,mono_refl F,hg⟩,fun a b=>by simp at a b⟩))⟩
 |5,hx=>cases hx;exact ⟨.inr (.inr (.inr ⟨45,0,rfl,by decide,by rw[←hlw];exact rfl,fun _=>⟨rfl,mono_refl F,hg⟩,fun a b=>by simp at a b⟩))⟩
 |6,hx=>cases hx;exact ⟨.inr (.inr (.inr ⟨46,0,rfl,by decide,rfl,fun _=>⟨rfl,mono_refl F,hg⟩,fun a b=>by simp at a b⟩))⟩
 |7,hx=>cases hx;exact ⟨.inr (.inr (.inr ⟨47,0,rfl,by decide,rfl,fun h=>absurd rfl h,fun _ _=>⟨1,by simp[flushTail,labelAt],by simp[pf],rfl,mono_refl F,hg⟩⟩))⟩
 |8,hx=>cases hx;exact ⟨.inr (.inr (.inr ⟨48,0,rfl,by decide,rfl,fun _=>H,fun a b=>by simp at a b⟩))⟩
 |i+9,hx=>simp[readBlk,putBlkC,dropBlk,laterBlk,flushTail]at hx
def segOp(f t k:Nat)(s:CSt):COp→List Seg
 |.enter=>[(part f k 0,pf (fOf s) (partH f s.d 0))]
 |.leave=>[(part f k 1,pf (fOf s) (partH f s.d 1))]
 |.rest=>[(part f k 2,pf (fOf s) (partH f 0 2))]
 |.wait=>[(part f k 4,pf (fOf s) (partH f 0 4))]
 |.read=>[(readBlk,pf (fOf s) [.cl 0 s.d,.cl 1 s.d,.cl 2 s.d,.cl 3 s.d])]
 |.put n=>[(putBlkC (labN (k+1)) n,(.cl 10 0,fOf s) :: pf ⟨true,0⟩ [.cl 11 0,.cl 12 0,.cl 13 0,.cl 14 0,.cl 15 0,.cl 16 0])]
 |.drop=>[(dropBlk (labN (k+1)),pf (fOf s) [.cl 20 s.d,.cl 21 s.d,.cl 22 s.d]++[(.cl 23 s.d,⟨false,0⟩)])]
 |.later=>[(laterBlk (labN (k+1)) t 1,pf (fOf s) [.cl 30 s.d,.cl 31 s.d,.cl 32 s.d,.cl 33 s.d,.cl 34 s.d]++pf ⟨false,0⟩ [.cl 35 s.d,.cl 36 s.d])]
 |.flush=>[(part f k 4,pf (fOf s) (partH f 0 4)),(flushTail (labN (k+2)) (labN (k+3)) t 1,pf ⟨s.r,2⟩ [.cl 40 0,.cl 41 0,.cl 42 0,.cl 43 0,.cl 44 0,.cl 45 0,.cl 46 0,.cl 47 0,.cl 48 0])]
def segOps(f t:Nat):Nat→CSt→List COp→List Seg
 |_,_,[]=>[]
 |k,s,x :: l=>segOp f t k s x++segOps f t (k+cinc x) (cfOp s (cR x)).2 l
theorem segOp_code(f t k:Nat)(s:CSt)(x:COp):((segOp f t k s x).map (·.1)).flatten=cblk f t k x:=by
 cases x <;> simp[segOp,cblk,flushBlk]
theorem segOps_code(f t:Nat):∀(l:List COp) (k:Nat) (s:CSt),((segOps f t k s l).map (·.1)).flatten=copsCode f t k l
 |[],k,s=>rfl
 |x :: l,k,s=>by
  simp only[segOps,List.map_append,List.flatten_append,copsCode]
  rw[segOp_code,segOps_code f t l]
structure HeadOk(f:Nat)(s:CSt)(q:An):Prop where
 gq:genQ q.1=true
 st:∃d',startD f q.1=some d'∧d'<100∧(f≠3→d'=s.d)
 fl:q.2=fOf s
theorem HeadOk.beg(H:HeadOk f s q)(hr:F.r=s.r)(hg:(fOf s).g≤F.g):Beg2 f s.d q.1 F q.2:=
 ⟨H.gq,H.st,fun h=>by rw[H.fl]at h;rw[hr];exact h,by rw[H.fl];exact hg⟩
theorem fc(h1:1≤f)(h4:f≤4):f=1∨f=2∨f=3∨f=4:=by omega
theorem one_seg{k':Nat}(h:k≤k')(hB:BlkF k k' B)(hl:B.length=a.length)(hL:∀(i:Nat) x,B[i]?=some x→LineB K t B a q i x):SegsOk K t k k' [(B,a)] q:=
 .cons h (Nat.le_refl _) hB hl hL (.nil _ _)
theorem op_ok(h1:1≤f)(h4:f≤4)(hf:K.X.f=f)(hnx:K.nx=1)(hlw:K.lw t=t % 4)(ht:t<8)(x:COp)(hV:∀n,x=.put n→K.V n)(hc:(cfOp s (cR x)).1=0)(hs:(cfOp s (cR x)).2.u=false)(hd:s.d<21)(hk:k+3<128)(hq:HeadOk f (cfOp s (cR x)).2 q) :
  SegsOk K t k (k+cinc x) (segOp f t k s x) q∧HeadOk f s ((((segOp f t k s x).map (·.2)).flatten++[q]).getD 0 zA):=by
 cases x with
 |enter=>
  have e:cfOp s (cR .enter)=(0,{s with d:=s.d+1}):=cfo_enter
  rw[e]at hq
  obtain ⟨p1,p2⟩:=part_lines (K:=K) (t:=t) (k:=k) (F:=fOf s) (q:=q) (j:=0) h1 h4 hf (show s.d<22 by omega) (by decide) (fun h=>by cases h) (fun h=>by omega) ⟨.inl hq.gq,by obtain ⟨d',a1,a2,a3⟩:=hq.st;exact ⟨d',a1,a2,a3⟩,fun h=>(by cases h),fun h=>(by rw[hq.fl]at h;exact h),.inl (by rw[hq.fl];exact Nat.le_refl _)⟩
  refine ⟨one_seg (by omega) (part_fine h1 h4 (by decide) k (by omega)) p1 p2,?_⟩
  show HeadOk f s (((pf (fOf s) (partH f s.d 0)++[])++[q]).getD 0 zA)
  rcases fc h1 h4 with rfl|rfl|rfl|rfl
  ·exact ⟨rfl,⟨s.d,rfl,by omega,fun _=>rfl⟩,rfl⟩
  ·exact ⟨rfl,⟨s.d,rfl,by omega,fun _=>rfl⟩,rfl⟩
  ·obtain ⟨d',a1,a2,a3⟩:=hq.st
   exact ⟨hq.gq,⟨d',a1,a2,fun h=>absurd rfl h⟩,hq.fl⟩
  ·by_cases h0:s.d=0
   ·unfold partH entH
    rw[h0]
    exact ⟨rfl,⟨0,rfl,by omega,fun _=>h0.symm⟩,rfl⟩
   ·unfold partH entH
    rw[if_neg (by decide),if_neg (by decide),if_neg (by decide),if_neg h0]
    exact ⟨rfl,⟨s.d,rfl,by omega,fun _=>rfl⟩,rfl⟩
 |leave=>
  have e:cfOp s (cR .leave)=if s.d=0 then (8,s)else (0,{s with d:=s.d - 1}):=cfo_leave
  rw[e]at hq hc
  by_cases h0:s.d=0
  ·rw[if_pos h0]at hc;cases hc
  ·rw[if_neg h0]at hq
   obtain ⟨p1,p2⟩:=part_lines (K:=K) (t:=t) (k:=k) (F:=fOf s) (q:=q) (j:=1) h1 h4 hf (show s.d<22 by omega) (by decide) (fun h=>by omega) (fun h=>by omega) ⟨.inl hq.gq,by obtain ⟨d',a1,a2,a3⟩:=hq.st;exact ⟨d',a1,a2,a3⟩,fun h=>(by cases h),fun h=>(by rw[hq.fl]at h;exact h),.inl (by rw[hq.fl];exact Nat.le_refl _)⟩
   refine ⟨one_seg (by omega) (part_fine h1 h4 (by decide) k (by omega)) p1 p2,?_⟩
   show HeadOk f s (((pf (fOf s) (partH f s.d 1)++[])++[q]).getD 0 zA)
   have hpos:0<s.d:=by omega
   rcases fc h1 h4 with rfl|rfl|rfl|rfl
   ·exact ⟨rfl,⟨s.d,by show (if ((1=1∨1=4)∧0<s.d)then some s.d else none)=_;rw[if_pos ⟨.inl rfl,hpos⟩],by omega,fun _=>rfl⟩,rfl⟩
   ·exact ⟨rfl,⟨s.d,by show (if (2=2∧0<s.d)then some s.d else none)=_;rw[if_pos ⟨rfl,hpos⟩],by omega,fun _=>rfl⟩,rfl⟩
   ·obtain ⟨d',a1,a2,a3⟩:=hq.st
    exact ⟨hq.gq,⟨d',a1,a2,fun h=>absurd rfl h⟩,hq.fl⟩
   ·exact ⟨rfl,⟨s.d,by show (if ((4=1∨4=4)∧0<s.d)then some s.d else none)=_;rw[if_pos ⟨.inr rfl,hpos⟩],by omega,fun _=>rfl⟩,rfl⟩
 |rest=>
  have e:cfOp s (cR .rest)=if s.d≠0 then (8,s)else (0,{s with w:=s.w||decide (kRest≠kRest)}):=cfo_rest
  have ew:(s.w||decide (kRest≠kRest))=s.w:=by simp
  rw[e,ew]at hq hc
  by_cases h0:s.d=0
  ·rw[if_neg (by omega)]at hq
   have hq:HeadOk f s q:=hq
   obtain ⟨p1,p2⟩:=part_lines (K:=K) (t:=t) (k:=k) (F:=fOf s) (q:=q) (d:=0) (j:=2) h1 h4 hf (by decide) (by decide) (fun h=>by cases h) (fun _=>rfl) ⟨.inl hq.gq,by obtain ⟨d',a1,a2,a3⟩:=hq.st;exact ⟨d',a1,a2,fun h=>by rw[a3 h,h0];rfl⟩,fun h=>(by cases h),fun h=>(by rw[hq.fl]at h;exact h),.inl (by rw[hq.fl];exact Nat.le_refl _)⟩
   refine ⟨one_seg (by omega) (part_fine h1 h4 (by decide) k (by omega)) p1 p2,?_⟩
   show HeadOk f s (((pf (fOf s) (partH f 0 2)++[])++[q]).getD 0 zA)
   rcases fc h1 h4 with rfl|rfl|rfl|rfl
   ·exact hq
   ·exact hq
   ·exact ⟨rfl,⟨0,rfl,by omega,fun _=>h0.symm⟩,rfl⟩
   ·exact hq
  ·rw[if_pos h0]at hc;cases hc
 |wait=>
  have e:cfOp s (cR .wait)=if s.d≠0 then (8,s)else (0,{s with w:=s.w||decide (kWait≠kRest)}):=cfo_wait
  rw[e]at hq hc
  by_cases h0:s.d=0
  ·rw[if_neg (by omega)]at hq
   obtain ⟨p1,p2⟩:=part_lines (K:=K) (t:=t) (k:=k) (F:=fOf s) (q:=q) (d:=0) (j:=4) h1 h4 hf (by decide) (by decide) (fun h=>by cases h) (fun _=>rfl) ⟨.inl hq.gq,by obtain ⟨d',a1,a2,a3⟩:=hq.st;exact ⟨d',a1,a2,fun h=>by rw[a3 h];exact h0⟩,fun h=>(by cases h),fun h=>(by rw[hq.fl]at h;exact h),.inr rfl⟩
   refine ⟨one_seg (by omega) (part_fine h1 h4 (by decide) k (by omega)) p1 p2,?_⟩
   show HeadOk f s (((pf (fOf s) (partH f 0 4)++[])++[q]).getD 0 zA)
   rcases fc h1 h4 with rfl|rfl|rfl|rfl
   all_goals exact ⟨rfl,⟨0,rfl,by omega,fun _=>h0.symm⟩,rfl⟩
  ·rw[if_pos h0]at hc;cases hc
 |flush=>
  have e:cfOp s (cR .flush)=if s.d≠0 then (8,s)else (0,{s with w:=s.w||decide (kFlush≠kRest)}):=cfo_flush
  rw[e]at hq hc
  by_cases h0:s.d=0
  ·rw[if_neg (by omega)]at hq
   obtain ⟨p1,p2⟩:=part_lines (K:=K) (t:=t) (k:=k) (F:=fOf s) (q:=(.cl 40 0,⟨s.r,2⟩)) (d:=0) (j:=4) h1 h4 hf (by decide) (by decide) (fun h=>by cases h) (fun _=>rfl) ⟨.inr ⟨⟨0,rfl⟩,Nat.le_refl 2⟩,⟨0,rfl,by decide,fun _=>rfl⟩,fun h=>(by cases h),fun h=>h,.inr rfl⟩
   have hb:Beg2 K.X.f 0 q.1 ⟨s.r,2⟩ q.2:=by
    rw[hf]
    have:=hq.beg (F:=⟨s.r,2⟩) rfl (by show (if _ then 1 else 0)≤2;split <;> omega)
    rw[show ({s with w:=s.w||decide (kFlush≠kRest)}:CSt).d=0 from h0]at this
    exact this
   have hne:labN (k+2)≠labN (k+3):=fun h=>by have:=Qu.labN_lab.1 _ _ h;omega
   refine ⟨.cons (k':=k+1) (by omega) (by show k+1≤k+3;omega) (part_fine h1 h4 (by decide) k (by omega)) p1 p2 (one_seg (k':=k+3) (by omega) (flush_fine t 1 ht (by omega) (k+1) (by omega)) rfl (l_flush (Nat.le_refl 2) hne hlw hnx hb)),?_⟩
   rcases fc h1 h4 with rfl|rfl|rfl|rfl
   all_goals exact ⟨rfl,⟨0,rfl,by omega,fun _=>h0.symm⟩,rfl⟩
  ·rw[if_pos h0]at hc;cases hc
 |read=>
  have e:cfOp s (cR .read)=if s.d=0 then (8,s)else (0,s):=cfo_read
  rw[e]at hq hc
  by_cases h0:s.d=0
  ·rw[if_pos h0]at hc;cases hc
  ·rw[if_neg h0]at hq
   have hq:HeadOk f s q:=hq
   exact ⟨one_seg (Nat.le_refl _) (read_fine k) rfl (l_read (by omega) (by omega) (by rw[hf];exact hq.beg rfl (Nat.le_refl _))),rfl,⟨s.d,rfl,by omega,fun _=>rfl⟩,rfl⟩
 |put n=>
  obtain ⟨hn,h0,hr,e⟩:=cfo_put (s:=s) (n:=n) hc
  have e':cfOp s (cR (.put n))=(0,{s with r:=true,w:=false}):=e
  rw[e']at hq
  have hb:Beg2 K.X.f 0 q.1 ⟨true,0⟩ q.2:=by
   rw[hf]
   have:=hq.beg (F:=⟨true,0⟩) rfl (Nat.le_refl _)
   rw[show ({s with r:=true,w:=false}:CSt).d=0 from h0]at this
   exact this
  exact ⟨one_seg (by omega) (put_fine n hn k (by omega)) rfl (l_put hr (hV n rfl) hb),rfl,⟨0,rfl,by omega,fun _=>h0.symm⟩,rfl⟩
 |drop=>
  have e:cfOp s (cR .drop)=if s.r=false then (5,s)else (0,{s with r:=false,u:=s.u||(decide (kDrop=kDrop) && !s.w)}):=cfo_drop
  rw[e]at hq hc hs
  cases hr:s.r with
  |false=>rw[hr,if_pos rfl]at hc;cases hc
  |true=>
   rw[hr,if_neg (by simp)]at hq hs
   have hw:s.w=true:=by
    cases hw:s.w with
    |true=>rfl
    |false=>simp[hw]at hs
   have hg:1≤(fOf s).g:=by unfold fOf;rw[hr,hw];exact Nat.le_refl 1
   have hb:Beg2 K.X.f s.d q.1 ⟨false,0⟩ q.2:=by rw[hf];exact hq.beg (F:=⟨false,0⟩) rfl (Nat.le_refl _)
   exact ⟨one_seg (by omega) (drop_fine k (by omega)) rfl (l_drop (by omega) hg hb),rfl,⟨s.d,rfl,by omega,fun _=>rfl⟩,rfl⟩
 |later=>
  have e:cfOp s (cR .later)=if s.r=false then (5,s)else (0,{s with r:=false,u:=s.u||(decide (kLater=kDrop) && !s.w)}):=cfo_later
  rw[e]at hq hc
  cases hr:s.r with
  |false=>rw[hr,if_pos rfl]at hc;cases hc
  |true=>
   rw[hr,if_neg (by simp)]at hq
   have hb:Beg2 K.X.f s.d q.1 ⟨false,0⟩ q.2:=by rw[hf];exact hq.beg (F:=⟨false,0⟩) rfl (Nat.le_refl _)
   exact ⟨one_seg (by omega) (later_fine t 1 ht (by omega) k (by omega)) rfl (l_later (by omega) hlw hnx hb),rfl,⟨s.d,rfl,by omega,fun _=>rfl⟩,rfl⟩
theorem cfo_d(s:CSt)(x:ROp):(cfOp s x).2.d≤s.d+1∧(s.u=true→(cfOp s x).2.u=true):=by
 unfold cfOp
 repeat' split
 all_goals simp_all
 all_goals omega
theorem cRun_u:∀(l:List ROp) (s:CSt),s.u=true→(cRun s l).2.u=true
 |[],s,h=>h
 |x :: l,s,h=>by
  unfold cRun
  split
  ·exact (cfo_d s x).2 h
  ·exact cRun_u l _ ((cfo_d s x).2 h)
theorem ops_ok(h1:1≤f)(h4:f≤4)(hf:K.X.f=f)(hnx:K.nx=1)(hlw:K.lw t=t % 4)(ht:t<8):∀(l:List COp) (k:Nat) (s:CSt),(∀n,COp.put n∈l→K.V n)→(cRun s (l.map cR)).1=0→(cRun s (l.map cR)).2.u=false→s.d+l.length<22→k+clabs l+3<128→HeadOk f (cRun s (l.map cR)).2 q→
  SegsOk K t k (k+clabs l) (segOps f t k s l) q∧HeadOk f s ((((segOps f t k s l).map (·.2)).flatten++[q]).getD 0 zA)
 |[],k,s,_,_,_,_,_,hq=>⟨.nil _ _,hq⟩
 |x :: l,k,s,hV,hc,hu,hd,hk,hq=>by
  simp only[List.map_cons,cRun,List.length_cons,clabs]at hc hu hd hk hq
  by_cases hz:(cfOp s (cR x)).1≠0
  ·rw[if_pos hz]at hc;exact absurd hc hz
  ·rw[if_neg hz]at hc hu hq
   have hz':(cfOp s (cR x)).1=0:=by omega
   have hdd:=(cfo_d s (cR x)).1
   have hux:(cfOp s (cR x)).2.u=false:=by
    cases e:(cfOp s (cR x)).2.u with
    |false=>rfl
    |true=>rw[cRun_u _ _ e]at hu;cases hu
   obtain ⟨i1,i2⟩:=ops_ok h1 h4 hf hnx hlw ht l (k+cinc x) (cfOp s (cR x)).2 (fun n hn=>hV n (List.mem_cons_of_mem _ hn)) hc hu (by omega) (by omega) hq
   obtain ⟨j1,j2⟩:=op_ok (k:=k) h1 h4 hf hnx hlw ht x (fun n e=>hV n (by rw[e];simp)) hz' hux (by omega) (by omega) i2
   refine ⟨?_,?_⟩
   ·have:=j1.append (n:=k+cinc x+clabs l) (r':=segOps f t (k+cinc x) (cfOp s (cR x)).2 l) i1
    rw[show k+clabs (x :: l)=k+cinc x+clabs l by simp only[clabs];omega]
    exact this
   ·show HeadOk f s ((((segOp f t k s x++segOps f t (k+cinc x) (cfOp s (cR x)).2 l).map (·.2)).flatten++[q]).getD 0 zA)
    rw[List.map_append,List.flatten_append,List.append_assoc]
    cases hfl:((segOp f t k s x).map (·.2)).flatten with
    |nil=>rw[hfl]at j2;rw[List.nil_append];exact j2
    |cons y r=>rw[hfl]at j2;exact j2
def segAll(f t:Nat)(ops:List COp):List Seg:=segOps f t 0 c0 ops++[(part f (clabs ops) 3,pf (fOf (cRun c0 (ops.map cR)).2) (partH f 0 3)),([⟨20,0,0,0,[]⟩],[(.fin,fOf (cRun c0 (ops.map cR)).2)])]
def annH(f t:Nat)(ops:List COp)(i:Nat):An:=(((segAll f t ops).map (·.2)).flatten++[zA]).getD i zA
theorem segAll_code(f t:Nat)(ops:List COp):((segAll f t ops).map (·.1)).flatten=ccode f t ops:=by
 unfold segAll ccode
 rw[List.map_append,List.flatten_append,segOps_code]
 simp
theorem all_lines(h1:1≤f)(h4:f≤4)(hf:K.X.f=f)(hnx:K.nx=1)(hlw:K.lw t=t % 4)(ht:t<8)(l:List COp)(hV:∀n,COp.put n∈l→K.V n)(hc:(cRun c0 (l.map cR)).1=0)(hd0:(cRun c0 (l.map cR)).2.d=0)(hu:(cRun c0 (l.map cR)).2.u=false)(h20:l.length≤20) :
  (∀i x,(ccode f t l)[i]?=some x→LineH K t (ccode f t l) (annH f t l) i x)∧HeadOk f c0 (annH f t l 0):=by
 obtain ⟨S,hS⟩:∃S,S=(cRun c0 (l.map cR)).2:=⟨_,rfl⟩
 have hlab:=clabs_le l
 have hstop:SegsOk K t (clabs l+1) (clabs l+1) [([⟨20,0,0,0,[]⟩],[((.fin,fOf S):An)])] zA:=
  one_seg (Nat.le_refl _) (stop_fine _) rfl (fun i x hx=>by
   match i,hx with
   |0,hx=>cases hx;exact ⟨.inl rfl⟩
   |i+1,hx=>simp at hx)
 have hfin:HeadP f 0 3 (fOf S) (.fin,fOf S):=⟨.inl rfl,⟨0,rfl,by decide,fun _=>rfl⟩,fun _=>rfl,fun h=>h,.inl (Nat.le_refl _)⟩
 obtain ⟨p1,p2⟩:=part_lines (K:=K) (t:=t) (k:=clabs l) (F:=fOf S) (q:=(.fin,fOf S)) (d:=0) (j:=3) h1 h4 hf (by decide) (by decide) (fun h=>by cases h) (fun _=>rfl) hfin
 have htail:SegsOk K t (clabs l) (clabs l+1) [(part f (clabs l) 3,pf (fOf S) (partH f 0 3)),([⟨20,0,0,0,[]⟩],[((.fin,fOf S):An)])] zA:=
  .cons (by omega) (Nat.le_refl _) (part_fine h1 h4 (by decide) _ (by omega)) p1 p2 hstop
 have hhead:HeadOk f S (((([(part f (clabs l) 3,pf (fOf S) (partH f 0 3)),([⟨20,0,0,0,[]⟩],[((.fin,fOf S):An)])]:List Seg).map (·.2)).flatten++[zA]).getD 0 zA):=by
  have hSd:S.d=0:=by rw[hS];exact hd0
  rcases fc h1 h4 with rfl|rfl|rfl|rfl
  all_goals exact ⟨rfl,⟨0,rfl,by decide,fun _=>hSd.symm⟩,rfl⟩
 obtain ⟨o1,o2⟩:=ops_ok (K:=K) (t:=t) h1 h4 hf hnx hlw ht l 0 c0 hV hc hu (by show 0+l.length<22;omega) (by omega) (by rw[←hS];exact hhead)
 rw[Nat.zero_add]at o1
 have hall:SegsOk K t 0 (clabs l+1) (segAll f t l) zA:=by
  unfold segAll
  rw[←hS]
  exact o1.append htail
 refine ⟨fun i x hx=>?_,?_⟩
 ·have hlt:=(List.getElem?_eq_some_iff.1 hx).1
  exact segs_lines hall (code:=ccode f t l) (ann:=annH f t l) (A:=[]) (aA:=[]) (R:=[]) (aR:=[zA]) (BlkF.nil 0) rfl rfl (by rw[segAll_code];simp) (by funext i;unfold annH;rw[List.nil_append]) i x (Nat.zero_le _) (by rw[segAll_code];simpa using hlt) hx
 ·unfold annH segAll
  rw[←hS,List.map_append,List.flatten_append,List.append_assoc]
  cases hfl:((segOps f t 0 c0 l).map (·.2)).flatten with
  |nil=>rw[hfl]at o2;rw[List.nil_append];exact o2
  |cons y r=>rw[hfl]at o2;exact o2
end Qk
end
section
namespace Qc
open Qs Qu Go.Proofs.YtppihkneeolomaaGreatDoor
def gReg3(n t:Nat):List Int:=[0,0,0,0,0,(n:Int)+5,(t:Int)+1,(n:Int)+1]
def cInit(f n:Nat):List (List Int):=rowsF (gOwnC f) n++[gHubC f n]++[[1]]++[[]]++[[]]++[[(n:Int)+2,(n:Int)+3,(n:Int)+4]]
def cRegs(n:Nat):List (List Int):=rowsF (gReg3 n) n
def cCs(f:Nat)(q:List (List COp))(t:Nat):List Instr:=ccode f t (q.getD t [])
def cCodes(f:Nat)(q:List (List COp)):List (List Instr):=(List.range q.length).map (cCs f q)
theorem gReg_step(n t:Nat):(gReg2 n t).set 5 ((n:Int)+5)=gReg3 n t:=rfl
theorem cInit_len(f n:Nat):(cInit f n).length=n+5:=by simp[cInit,rowsF_len]
theorem cInit_all(f n:Nat):∀l∈cInit f n,l.length≤4:=fun l hl=>by
 simp only[cInit,List.mem_append,List.mem_singleton]at hl
 rcases hl with ((((h|h)|h)|h)|h)|h
 ·obtain ⟨i,-,rfl⟩:=List.mem_map.1 h
  simp[gOwnC]
 all_goals subst h;simp[gHubC]
theorem cInit_rows(f n:Nat):∀l∈cInit f n,l.length≤100:=fun l hl=>Nat.le_trans (cInit_all f n l hl) (by decide)
theorem cRegs_len(n:Nat):(cRegs n).length=n:=rowsF_len
theorem cCodes_len(f:Nat)(q:List (List COp)):(cCodes f q).length=q.length:=by simp[cCodes]
theorem cCs_get{f t:Nat}{q:List (List COp)}{l:List COp}(h:q[t]?=some l):cCs f q t=ccode f t l:=by unfold cCs;rw[List.getD_eq_getElem?_getD,h];rfl
end Qc
end
namespace Go.Proofs.YtppihkneeolomaaGreatDoor
section
open Qs Qh Qg Qu Qc
variable {f:Nat}{q:List (List COp)}
def cM(f:Nat)(q:List (List COp)):M:=startM 64 (cInit f q.length) (cRegs q.length) (cCodes f q)
theorem cInit_at(f n i:Nat):(cInit f n)[i]?=if i<n then some (gOwnC f i)else if i=n then some (gHubC f n)else if i=n+1 then some [1]else if i=n+2 then some []else if i=n+3 then some []else if i=n+4 then some [(n:Int)+2,(n:Int)+3,(n:Int)+4]else none:=by
 unfold cInit
 simp only[List.append_assoc]
 by_cases h:i<n
 ·rw[List.getElem?_append_left (by rw[rowsF_len];exact h),rowsF_get h,if_pos h]
 ·rw[List.getElem?_append_right (by rw[rowsF_len];omega),rowsF_len,if_neg h]
  obtain ⟨d,rfl⟩:∃d,i=n+d:=⟨i - n,by omega⟩
  rw[show n+d - n=d by omega]
  match d with
  |0=>simp
  |1=>simp
  |2=>simp
  |3=>simp
  |4=>simp
  |d+5=>
   rw[if_neg (by omega),if_neg (by omega),if_neg (by omega),if_neg (by omega),if_neg (by omega)]
   simp
theorem c_cell{i:Nat}(hi:i<64):(cM f q).cells[i]?=some (if i<q.length+5 then ⟨pad 4 ((cInit f q.length).getD i []),1,true⟩else ⟨[0,0,0,0],0,false⟩):=by
 unfold cM startM
 simp only
 rw[List.getElem?_map,List.getElem?_range hi,cInit_len]
 rfl
theorem c_len:(cM f q).cells.length=64:=by simp[cM,startM]
theorem c_T(t:Nat)(ht:t<q.length):(cM f q).T[t]?=some ⟨ccode f t (q.getD t []),gReg3 q.length t,0⟩:=by
 unfold cM startM cCodes
 simp only
 rw[List.getElem?_mapIdx,List.getElem?_map,List.getElem?_range ht]
 unfold cRegs
 simp only[Option.map_some]
 rw[List.getD_eq_getElem?_getD,rowsF_get ht]
 rfl
theorem c_Tlen:(cM f q).T.length=q.length:=by simp[cM,startM,cCodes]
theorem c_thr{t:Nat}(ht:t<q.length):(cM f q).thr t=⟨ccode f t (q.getD t []),gReg3 q.length t,0⟩:=by
 unfold M.thr
 rw[List.getD_eq_getElem?_getD,c_T t ht];rfl
theorem c_wait(t:Nat):(cM f q).waitsOf t=[]:=by
 unfold M.waitsOf cM startM
 simp only[List.getD,List.getElem?_replicate]
 split <;> rfl
theorem c_here(h6:q.length≤6)(x:Int):(absM (cM f q)).here x=true↔1≤x∧x≤q.length+5:=by
 rw[abs_here]
 constructor
 ·rintro ⟨a,b,y,c,d,e⟩
  have hlt:=(List.getElem?_eq_some_iff.1 c).1
  rw[c_len]at hlt
  rw[c_cell hlt]at c
  by_cases h:celOf x<q.length+5
  ·rw[if_pos h]at c
   cases c
   simp only at e
   unfold celOf at h
   omega
  ·rw[if_neg h]at c
   cases c
   cases d
 ·intro h
  have hc:celOf x=(x - 1).toNat:=by unfold celOf;omega
  refine ⟨by omega,by omega,⟨pad 4 ((cInit f q.length).getD (celOf x) []),1,true⟩,?_,rfl,by simp only;omega⟩
  rw[c_cell (by omega),if_pos (by omega)]
theorem c_val(h6:q.length≤6){i:Nat}(hi:i<q.length+5)(w:Nat):(absM (cM f q)).val ((i:Int)+1) w=(pad 4 ((cInit f q.length).getD i [])).getD w 0:=by
 rw[abs_val ((c_here h6 _).2 (by omega))]
 unfold getWord
 have hc:celOf ((i:Int)+1)=i:=by unfold celOf;omega
 rw[hc,c_cell (by omega),if_pos hi]
 rfl
theorem c_val2(h6:q.length≤6):(absM (cM f q)).val ((q.length:Int)+2) 0=1:=by
 have:=c_val (f:=f) h6 (show q.length+1<q.length+5 by omega) 0
 rw[show (((q.length+1:Nat):Int)+1)=(q.length:Int)+2 by omega]at this
 have e:(cInit f q.length).getD (q.length+1) []=[1]:=by
  rw[List.getD_eq_getElem?_getD,cInit_at,if_neg (by omega),if_neg (by omega),if_pos rfl];rfl
 rw[this,e];rfl
theorem c_fine(h1:1≤f)(h4:f≤4)(h6:q.length≤6)(h20:∀l∈q,l.length≤20)(hp:∀l∈q,∀n,COp.put n∈l→1≤n∧n≤1000):∀c∈cCodes f q,CodeFine c:=fun c hc=>by
 obtain ⟨t,ht,rfl⟩:=List.mem_map.1 hc
 have htl:=List.mem_range.1 ht
 unfold cCs
 have hm:q.getD t []∈q:=by rw[List.getD_eq_getElem?_getD,List.getElem?_eq_getElem htl];exact List.getElem_mem htl
 exact ccode_fine h1 h4 t (by omega) (h20 _ hm) (hp _ hm)
theorem cInit_fine(f n:Nat)(hn:n≤6):RowsFine 4 (cInit f n):=fun l hl=>by
 refine ⟨cInit_all f n l hl,fun x hx=>?_⟩
 simp only[cInit,List.mem_append,List.mem_singleton]at hl
 rcases hl with ((((h|h)|h)|h)|h)|h
 ·obtain ⟨i,hi,rfl⟩:=List.mem_map.1 h
  have:=List.mem_range.1 hi
  simp only[gOwnC,List.mem_cons,List.not_mem_nil,or_false]at hx
  unfold isWord W32
  simp only[Bool.and_eq_true,decide_eq_true_eq]
  rcases hx with rfl|rfl|rfl|rfl
  ·split <;> omega
  ·split <;> omega
  ·omega
  ·omega
 all_goals
  subst h
  simp only[gHubC,List.mem_cons,List.not_mem_nil,or_false]at hx
  try unfold isWord W32
  try simp only[Bool.and_eq_true,decide_eq_true_eq]
 ·rcases hx with rfl|rfl|rfl|rfl
  ·omega
  ·omega
  ·split <;> omega
  ·omega
 ·omega
 ·rcases hx with rfl|rfl|rfl <;> omega
theorem cRegs_fine(n:Nat)(hn:n≤6):RowsFine 8 (cRegs n):=fun l hl=>by
 obtain ⟨t,ht,rfl⟩:=List.mem_map.1 hl
 have htl:=List.mem_range.1 ht
 refine ⟨Nat.le_refl 8,fun x hx=>?_⟩
 simp only[gReg3,List.mem_cons,List.not_mem_nil,or_false]at hx
 unfold isWord W32
 simp only[Bool.and_eq_true,decide_eq_true_eq]
 rcases hx with rfl|rfl|rfl|rfl|rfl|rfl|rfl|rfl <;> omega
end
end Go.Proofs.YtppihkneeolomaaGreatDoor
section
namespace Qk
open Qs Qg Qo Qc Qh Go.Proofs.YtppihkneeolomaaGreatDoor
open Qu (labN)
variable {f n:Nat}{q:List (List COp)}
def cX(f n:Nat)(h1:1≤f)(h4:f≤4)(h6:n≤6):Cx:=
 ⟨f,n,(n:Int)+1,fun t=>if t<n then (t:Int)+1 else (t:Int)+100,fun t=>by split <;> omega,fun t u h=>by revert h;split <;> split <;> omega,h1,h4⟩
def cV(q:List (List COp))(v:Int):Prop:=1≤v∧(v=1∨∃l∈q,COp.put v∈l)
theorem cX_gr{h1:1≤f}{h4:f≤4}{h6:n≤6}{x:Int}:(cX f n h1 h4 h6).gr x↔1≤x∧x≤(n:Int)+1:=by
 constructor
 ·rintro (h|⟨t,ht,h⟩)
  ·have h:x=(n:Int)+1:=h
   omega
  ·have ht:t<n:=ht
   have h:x=if t<n then (t:Int)+1 else (t:Int)+100:=h
   rw[if_pos ht]at h
   omega
 ·intro h
  by_cases e:x=(n:Int)+1
  ·exact .inl e
  ·refine .inr ⟨(x - 1).toNat,by show (x - 1).toNat<n;omega,?_⟩
   show x=if (x - 1).toNat<n then ((x - 1).toNat:Int)+1 else _
   rw[if_pos (by omega)];omega
def cK(f:Nat)(q:List (List COp))(h1:1≤f)(h4:f≤4)(h6:q.length≤6):Ck:=
 {X:=cX f q.length h1 h4 h6
  top:=(q.length:Int)+5
  lc:=fun t=>if t<4 then (q.length:Int)+3 else (q.length:Int)+4
  lw:=fun t=>t % 4
  nx:=1
  V:=cV q
  tg:=fun h=>by have:=cX_gr.1 h;omega
  lg:=fun t h=>by have:=cX_gr.1 h;split at this <;> omega
  lt:=fun t=>by split <;> omega
  li:=fun t u ht hu h1 h2=>by
   have ht:t<q.length:=ht
   have hu:u<q.length:=hu
   revert h1
   split <;> split <;> omega
  n0:=by decide
  V0:=fun v h=>by have:=h.1;omega}
variable {h1:1≤f}{h4:f≤4}{h6:q.length≤6}
def cRo(n:Nat)(x:Int):Ro:=if (1≤x∧x≤(n:Int)+1)∨(n:Int)+3≤x∧x≤(n:Int)+5 then .sp else if x=(n:Int)+2 then .pub else .no
theorem c_v(h6:q.length≤6){i:Nat}(hi:i<q.length+5)(w:Nat){x:Int}(hx:x=(i:Int)+1):(absM (cM f q)).val x w=(pad 4 ((cInit f q.length).getD i [])).getD w 0:=by rw[hx];exact c_val h6 hi w
theorem c_own(h6:q.length≤6){t:Nat}(ht:t<q.length)(w:Nat):(absM (cM f q)).val ((t:Int)+1) w=(gOwnC f t).getD w 0:=by
 rw[c_v h6 (i:=t) (by omega) w rfl]
 have:(cInit f q.length).getD t []=gOwnC f t:=by
  rw[List.getD_eq_getElem?_getD,cInit_at,if_pos ht];rfl
 rw[this];rfl
theorem c_hub(h6:q.length≤6)(w:Nat):(absM (cM f q)).val ((q.length:Int)+1) w=(gHubC f q.length).getD w 0:=by
 rw[c_v h6 (i:=q.length) (by omega) w rfl]
 have:(cInit f q.length).getD q.length []=gHubC f q.length:=by
  rw[List.getD_eq_getElem?_getD,cInit_at,if_neg (by omega),if_pos rfl];rfl
 rw[this];rfl
theorem c_top(h6:q.length≤6)(w:Nat):(absM (cM f q)).val ((q.length:Int)+5) w=[(q.length:Int)+2,(q.length:Int)+3,(q.length:Int)+4,0].getD w 0:=by
 rw[c_v h6 (i:=q.length+4) (by omega) w (by omega)]
 have:(cInit f q.length).getD (q.length+4) []=[(q.length:Int)+2,(q.length:Int)+3,(q.length:Int)+4]:=by
  rw[List.getD_eq_getElem?_getD,cInit_at,if_neg (by omega),if_neg (by omega),if_neg (by omega),if_neg (by omega),if_neg (by omega),if_pos rfl];rfl
 rw[this];rfl
theorem c_lst(h6:q.length≤6){i:Nat}(hi:i=2∨i=3)(w:Nat):(absM (cM f q)).val ((q.length:Int)+i+1) w=0:=by
 rw[c_v h6 (i:=q.length+i) (by omega) w (by omega)]
 have:(cInit f q.length).getD (q.length+i) []=[]:=by
  rw[List.getD_eq_getElem?_getD,cInit_at,if_neg (by omega),if_neg (by omega),if_neg (by omega)]
  rcases hi with rfl|rfl
  ·rw[if_pos rfl];rfl
  ·rw[if_neg (by omega),if_pos rfl];rfl
 rw[this]
 match w with
 |0=>rfl
 |1=>rfl
 |2=>rfl
 |3=>rfl
 |w+4=>rfl
theorem c_chain(h6:q.length≤6)(hf:f≠4):∀m,m≤q.length→(cX f q.length h1 h4 h6).Ch (absM (cM f q)).val (m:Int) (List.range m).reverse
 |0,_=>rfl
 |m+1,hm=>by
  rw[List.range_succ,List.reverse_append]
  refine ⟨?_,hm,?_⟩
  ·show ((m+1:Nat):Int)=if m<q.length then (m:Int)+1 else _
   rw[if_pos (by omega)];omega
  ·have e:(cX f q.length h1 h4 h6).own m=(m:Int)+1:=if_pos (by omega)
   rw[e,c_own h6 (by omega)]
   show (cX f q.length h1 h4 h6).Ch _ (if f=4 then 0 else (m:Int)) _
   rw[if_neg hf]
   exact c_chain h6 hf m (by omega)
theorem c_reg(h6:q.length≤6){t:Nat}(ht:t<q.length)(k:Nat):(absM (cM f q)).reg t k=(gReg3 q.length t).getD k 0:=by
 show ((cM f q).thr t).regs.getD k 0=_
 rw[c_thr ht]
theorem c_buf(t:Nat):(absM (cM f q)).buf t=[]:=by
 show ((cM f q).waitsOf t).map enOf=[]
 rw[c_wait];rfl
structure SafeOps(q:List (List COp)):Prop where
 h20:∀l∈q,l.length≤20
 hp:∀l∈q,∀n,COp.put n∈l→1≤n∧n≤1000
 run:∀l∈q,(cRun c0 (l.map cR)).1=0∧(cRun c0 (l.map cR)).2.d=0∧(cRun c0 (l.map cR)).2.u=false
theorem c_lines(S:SafeOps q){t:Nat}(ht:t<q.length) :
  (∀i x,(ccode f t (q.getD t []))[i]?=some x→LineH (cK f q h1 h4 h6) t (ccode f t (q.getD t [])) (annH f t (q.getD t [])) i x)∧HeadOk f c0 (annH f t (q.getD t []) 0):=by
 have hm:q.getD t []∈q:=by rw[List.getD_eq_getElem?_getD,List.getElem?_eq_getElem ht];exact List.getElem_mem ht
 obtain ⟨r1,r2,r3⟩:=S.run _ hm
 exact all_lines h1 h4 rfl rfl rfl (by omega) _ (fun n hn=>⟨(S.hp _ hm n hn).1,.inr ⟨_,hm,hn⟩⟩) r1 r2 r3 (S.h20 _ hm)
theorem c_good(S:SafeOps q):GoodH (cK f q h1 h4 h6) (fun t=>ccode f t (q.getD t [])) (fun t=>annH f t (q.getD t [])) 0 (cM f q):=by
 obtain ⟨ann,hann⟩:∃ann:Nat→Nat→An,ann=fun t=>annH f t (q.getD t []):=⟨_,rfl⟩
 rw[←hann]
 have hH:∀t,t<q.length→HeadOk f c0 (ann t 0):=fun t ht=>by rw[hann];exact (c_lines (h1:=h1) (h4:=h4) (h6:=h6) S ht).2
 have hpos:∀t,t<q.length→posH ann (cM f q) t=(ann t 0).1∧flH ann (cM f q) t=⟨false,0⟩:=fun t ht=>by
  unfold posH flH
  rw[c_thr ht]
  exact ⟨rfl,(hH t ht).fl⟩
 clear hann
 have hst:∀t,t<q.length→genQ (posH ann (cM f q) t)=true∧∃d,startD f (posH ann (cM f q) t)=some d∧d<100∧(f≠3→d=0):=fun t ht=>by
  rw[(hpos t ht).1]
  exact ⟨(hH t ht).gq,(hH t ht).st⟩
 have hnh:∀t,t<q.length→¬hold (posH ann (cM f q) t):=fun t ht h=>by
  obtain ⟨d,hd⟩:=hold_cl h
  have:=(hst t ht).1
  rw[hd]at this;cases this
 have hOwn:∀t,t<q.length→(cX f q.length h1 h4 h6).own t=(t:Int)+1:=fun t ht=>if_pos ht
 have hown:∀t,t<q.length→∀w,(absM (cM f q)).val ((cX f q.length h1 h4 h6).own t) w=(gOwnC f t).getD w 0:=fun t ht w=>by rw[hOwn t ht];exact c_own h6 ht w
 have hbuf:=c_buf (f:=f) (q:=q)
 have hvw:∀t,t<q.length→(absM (cM f q)).vw t ((cX f q.length h1 h4 h6).own t) 0=if f=3 then 1 else 0:=fun t ht=>by
  rw[vw_nil (hbuf t),hown t ht];rfl
 have hh0:(absM (cM f q)).val (cX f q.length h1 h4 h6).hub 0=1:=by show (absM (cM f q)).val ((q.length:Int)+1) 0=1;rw[c_hub h6];rfl
 have hh1:(absM (cM f q)).val (cX f q.length h1 h4 h6).hub 1=0:=by show (absM (cM f q)).val ((q.length:Int)+1) 1=0;rw[c_hub h6];rfl
 have hh2:(absM (cM f q)).val (cX f q.length h1 h4 h6).hub 2=if f=4 then 0 else (q.length:Int):=by show (absM (cM f q)).val ((q.length:Int)+1) 2=_;rw[c_hub h6];rfl
 obtain ⟨L,hL⟩:∃L,L=if f=4 then []else (List.range q.length).reverse:=⟨_,rfl⟩
 have hch:(cX f q.length h1 h4 h6).Ch (absM (cM f q)).val ((absM (cM f q)).val (cX f q.length h1 h4 h6).hub 2) L:=by
  rw[hh2,hL]
  by_cases e:f=4
  ·rw[if_pos e,if_pos e];rfl
  ·rw[if_neg e,if_neg e];exact c_chain h6 e _ (Nat.le_refl _)
 have hcell:∀c∈(cM f q).cells,∃i,i<64∧c=(if i<q.length+5 then ⟨pad 4 ((cInit f q.length).getD i []),1,true⟩else ⟨[0,0,0,0],0,false⟩):=fun c hc=>by
  obtain ⟨i,hi⟩:=List.getElem?_of_mem hc
  have hlt:i<64:=by have:=(List.getElem?_eq_some_iff.1 hi).1;rw[c_len]at this;exact this
  rw[c_cell hlt]at hi
  exact ⟨i,hlt,(Option.some.inj hi).symm⟩
 have hold0:∀a r,r<q.length→¬oldR (absM (cM f q)) (posH ann (cM f q)) (cRo q.length) a r:=fun a r hr ho=>hnh r hr ho.1
 refine ⟨⟨by rw[c_Tlen];rfl,by simp[cM,startM,cCodes];rfl,fun t ht=>by rw[c_thr ht],fun t ht=>by rw[c_thr ht];rfl,fun c hc=>?_,by rw[c_len];decide,fun t x hx=>(by rw[c_wait]at hx;cases hx)⟩,rfl,⟨L,cRo q.length,⟨fun t ht=>?_,.inl ⟨hh1,fun t ht h=>?_⟩,fun _=>.inl hh0,fun _=>(by show 1≤(absM (cM f q)).val (cX f q.length h1 h4 h6).hub 0∧(absM (cM f q)).val (cX f q.length h1 h4 h6).hub 0≤1+2*0;rw[hh0];omega),fun _ t _ e he=>(by rw[hbuf]at he;cases he),hch,fun g t ht=>?_,fun g t ht _=>?_,fun a r ha hr ho=>absurd ho (hold0 a r hr)⟩,?_⟩,fun x hx=>(by cases hx),fun v hv=>?_,fun c hc hh=>?_⟩
 ·obtain ⟨i,hi,rfl⟩:=hcell c hc
  by_cases h:i<q.length+5
  ·rw[if_pos h]
   have hle:((cInit f q.length).getD i []).length≤4:=by
    have hr:=cInit_fine f q.length h6
    rw[List.getD_eq_getElem?_getD]
    cases e:(cInit f q.length)[i]? with
    |none=>simp
    |some y=>exact (hr y (List.mem_of_getElem? e)).1
   show (pad 4 ((cInit f q.length).getD i [])).length=4
   rw[List.getD_eq_getElem?_getD]at hle
   simp[pad];omega
  ·rw[if_neg h];rfl
 ·have ht:t<q.length:=ht
  obtain ⟨hg,d,hd,hd1,hd2⟩:=hst t ht
  have Bq:=beg_of (X:=cX f q.length h1 h4 h6) hd hd1 ((absM (cM f q)).reg t) ((absM (cM f q)).buf t) (absM (cM f q)).val ((cX f q.length h1 h4 h6).Prot (absM (cM f q))) (oldR (absM (cM f q)) (posH ann (cM f q)) (cRo q.length) t) L t ((absM (cM f q)).vw t ((cX f q.length h1 h4 h6).own t) 0) ((absM (cM f q)).val (cX f q.length h1 h4 h6).hub 0)
  refine ⟨?_,?_,fun _ e he=>(by rw[hbuf]at he;cases he),fun g=>?_,fun g=>?_,fun g g2 h=>?_,fun g h=>?_,fun _ _ _ e he=>(by rw[hbuf]at he;cases he),fun g _=>?_,Bq.a,fun _=>Bq.c,Bq.b⟩
  ·show (absM (cM f q)).reg t 6=(cX f q.length h1 h4 h6).own t
   rw[c_reg h6 ht,hOwn t ht];rfl
  ·show (absM (cM f q)).reg t 7=(q.length:Int)+1
   rw[c_reg h6 ht];rfl
  ·have g':f≠3:=g
   show (absM (cM f q)).vw t ((cX f q.length h1 h4 h6).own t) 0 % 256=_
   rw[hvw t ht,if_neg g',Bq.n g,hd2 g'];rfl
  ·refine Prot_nil (hbuf t) ?_
   show v512 ((absM (cM f q)).val ((cX f q.length h1 h4 h6).own t) 0)
   rw[hown t ht]
   show v512 (if f=3 then 1 else 0)
   unfold v512
   split <;> omega
  ·have:=Bq.s g h
   have:=hd2 g
   omega
  ·have g':f=4:=g
   have:=Bq.l g h
   have:=hd2 (by omega)
   omega
  ·have g':f=3:=g
   show 1≤(absM (cM f q)).val ((cX f q.length h1 h4 h6).own t) 0∧(absM (cM f q)).val ((cX f q.length h1 h4 h6).own t) 0≤(absM (cM f q)).val (cX f q.length h1 h4 h6).hub 0
   rw[hown t ht,hh0]
   show 1≤(if f=3 then (1:Int)else 0)∧(if f=3 then (1:Int)else 0)≤1
   rw[if_pos g']
   omega
 ·have ht:t<q.length:=ht
  obtain ⟨hg,d,hd,hd1,_⟩:=hst t ht
  exact (beg_of (X:=cX f q.length h1 h4 h6) hd hd1 ((absM (cM f q)).reg t) ((absM (cM f q)).buf t) (absM (cM f q)).val ((cX f q.length h1 h4 h6).Prot (absM (cM f q))) (oldR (absM (cM f q)) (posH ann (cM f q)) (cRo q.length) t) L t 0 0).h h
 ·have g':f≠4:=g
  rw[hL,if_neg g']
  simp
  exact ht
 ·have g':f=4:=g
  have ht:t<q.length:=ht
  rw[hL,if_pos g']
  have:(absM (cM f q)).val ((cX f q.length h1 h4 h6).own t) 2=0:=by rw[hown t ht];rfl
  constructor
  ·intro h;cases h
  ·intro h;exact absurd this h
 ·have hsp:∀x,(cK f q h1 h4 h6).spec x→cRo q.length x=.sp:=fun x hx=>by
   unfold cRo
   rcases hx with hx|hx|⟨t,ht,hx⟩
   ·rw[if_pos (.inl ((cX_gr (h1:=h1) (h4:=h4) (h6:=h6)).1 hx))]
   ·have hx:x=(q.length:Int)+5:=hx
    rw[if_pos (.inr (by omega))]
   ·have hx:x=if t<4 then (q.length:Int)+3 else (q.length:Int)+4:=hx
    rw[if_pos (.inr (by split at hx <;> omega))]
  have hp2:cRo q.length ((q.length:Int)+2)=.pub:=by
   unfold cRo
   rw[if_neg (by omega),if_pos rfl]
  refine ⟨?_,fun x hx=>?_,hsp,fun t ht=>?_,?_,fun x hx=>?_,fun t ht=>⟨?_,fun e he=>(by rw[hbuf]at he;cases he),[],?_,fun x hx=>(by cases hx),List.nodup_nil,?_⟩,fun t ht d h=>absurd (by rw[h];trivial) (hnh t ht),fun t ht h=>absurd h (hnh t ht),fun t ht h1 h2 r hr h=>absurd h (hnh r hr),fun t ht h1 r hr h=>absurd h (hnh r hr)⟩
  ·unfold cRo
   rw[if_neg (by omega),if_neg (by omega)]
  ·refine (c_here h6 x).2 ?_
   unfold cRo at hx
   split at hx
   ·omega
   ·split at hx
    ·omega
    ·exact absurd rfl hx
  ·have ht:t<q.length:=ht
   show (absM (cM f q)).val ((q.length:Int)+5) (1+t/4)=if t<4 then (q.length:Int)+3 else (q.length:Int)+4
   rw[c_top h6]
   by_cases h:t<4
   ·rw[if_pos h,show t/4=0 by omega];rfl
   ·rw[if_neg h,show t/4=1 by omega];rfl
  ·show cRo q.length ((absM (cM f q)).val ((q.length:Int)+5) 0)=.pub
   rw[c_top h6];exact hp2
  ·have hx2:x=(q.length:Int)+2:=by
    unfold cRo at hx
    split at hx
    ·cases hx
    ·split at hx
     ·assumption
     ·cases hx
   rw[hx2,c_val2 h6]
   exact ⟨by decide,.inl rfl⟩
  ·show (absM (cM f q)).reg t 5=(q.length:Int)+5
   rw[c_reg h6 ht];rfl
  ·show (absM (cM f q)).vw t (if t<4 then (q.length:Int)+3 else (q.length:Int)+4) (t % 4)=0
   rw[vw_nil (hbuf t)]
   split
   ·have:=c_lst (f:=f) h6 (i:=2) (.inl rfl) (t % 4)
    rw[show (q.length:Int)+(2:Nat)+1=(q.length:Int)+3 by omega]at this
    exact this
   ·have:=c_lst (f:=f) h6 (i:=3) (.inr rfl) (t % 4)
    rw[show (q.length:Int)+(3:Nat)+1=(q.length:Int)+4 by omega]at this
    exact this
  ·have ht:t<q.length:=ht
   refine (Hnd_gen (hst t ht).1).2 ?_
   have h3:(absM (cM f q)).reg t 3=0:=by rw[c_reg h6 ht];rfl
   exact ⟨.inl h3,fun _=>h3⟩
 ·obtain ⟨c,hc,rfl⟩:=List.mem_map.1 hv
  obtain ⟨i,hi,rfl⟩:=hcell c hc
  split <;> simp
 ·obtain ⟨i,hi,rfl⟩:=hcell c hc
  split
  ·simp
  ·rename_i h;rw[if_neg h]at hh;cases hh
theorem cs_law(h1:1≤f)(h4:f≤4)(hq1:1≤q.length)(h6:q.length≤6)(S:SafeOps q)(l:List Int)(hl:l.length≤100000) :
  ((cM f q).run l).1.faults=0∧∀x∈((cM f q).run l).1.marks,x.2=1∨∃o∈q,COp.put x.2∈o:=by
 have G:=GoodH.run (K:=cK f q h1 h4 h6) (code:=fun t=>ccode f t (q.getD t [])) (ann:=fun t=>annH f t (q.getD t [])) hq1 (fun r hr=>by
  show (if r<q.length then (r:Int)+1 else (r:Int)+100)≠0
  split <;> omega) (fun t ht=>(c_lines S ht).1) l (c_good S) (Int.le_refl 0) (by omega)
 exact ⟨G.ft,fun x hx=>(G.mr x hx).2⟩
end Qk
end
namespace Go.Proofs.YtppihkneeolomaaGreatDoor
section
open Go.RowKit Qs Qh
variable {N:Nat}{w w':World}{v u:Value}{ll:List (List ROp)}{l:List ROp}
theorem thrF_none{l:List ROp}(h:(thrF l).1=0):cRowF l=none∧(thrF l).2=cSafe l:=by
 unfold thrF at h ⊢
 cases hr:cRowF l with
 |none=>rw[hr]at h;exact ⟨rfl,rfl⟩
 |some c=>
  rw[hr]at h
  have:=cRowF_num hr
  simp only at h
  omega
theorem thrF_some{l:List ROp}(h:(thrF l).1≠0):cRowF l=some (thrF l).1∧1≤(thrF l).1:=by
 unfold thrF at h ⊢
 cases hr:cRowF l with
 |none=>rw[hr]at h;exact absurd rfl h
 |some c=>
  have:=cRowF_num hr
  exact ⟨rfl,by simp only;omega⟩
theorem cfault_ok(H:RIn N w v ll)(hlen:ll.length≤10)(hrow:∀l∈ll,l.length≤30) :
  Calls Tryz.prog 25 #[v] w fun e w'=>e=.returned (.tuple #[.agg #[.int .i64 (cfG ll).1,.int .i64 (cfG ll).2],.bool (csG ll)])∧Mod noF w w':=by
 have hm:=many_any (H.keep ((Mod.refl noF w).alloc (.cells #[.int .i64 0,.int .i64 0] 27)) (fun _ _ e=>e)) hlen hrow
 have HM:=Lib.hid hm
 have HH:=Lib.hid H
 obtain ⟨a,c,rfl,-⟩:=H
 clear hrow hm
 cases hmany:manyB ll with
 |false=>
  have hk:cfG ll=(2,-1):=by unfold cfG;rw[hmany];rfl
  have hs:csG ll=false:=by unfold csG;rw[hk];rfl
  rw[hk,hs]
  rw[hmany]at HM
  clear hk hs
  go_enter Tryz.func25,Tryz.ntmps25
  go_wp2_with fail
  refine HM.out.mono ?_
  rintro e w1 ⟨rfl,rfl⟩
  go_wp2_with fail
  refine (bare_ok 2 _).mono ?_
  rintro e w2 ⟨rfl,hm2⟩
  have Hm2:=Lib.hid hm2
  have hT:=hm2.heap (heap_alloc_new w (.cells #[.int .i64 0,.int .i64 0] 27)) (fun e=>e)
  have t0:=cell_of_heap hT 0
  have t1:=cell_of_heap hT 1
  have tf0:=free_of_heap hT 0
  have tf1:=free_of_heap hT 1
  have HT:=Lib.hid hT
  clear hT
  replace t0:w2.cell? ⟨w.heap.size,0,none⟩=some (.int .i64 0):=t0
  replace t1:w2.cell? ⟨w.heap.size,1,none⟩=some (.int .i64 0):=t1
  go_wp2
  obtain ⟨wf,hwf⟩:∃wf,wf=(w2.setCell ⟨w.heap.size,0,none⟩ (.int .i64 2)).setCell ⟨w.heap.size,1,none⟩ (.int .i64 (-1)):=⟨_,rfl⟩
  have hh:wf.heap[w.heap.size]?=some (.cells #[.int .i64 2,.int .i64 (-1)] 27 (0,0)):=by rw[hwf,Qh.heap_setCell_same (Qh.heap_setCell_same HT.out 0 _) 1 _];rfl
  have z0:wf.cell? ⟨w.heap.size,0,none⟩=some (.int .i64 2):=by rw[cell_of_heap hh];rfl
  have z1:wf.cell? ⟨w.heap.size,1,none⟩=some (.int .i64 (-1)):=by rw[cell_of_heap hh];rfl
  have hMf:Mod noF w wf:=by rw[hwf];exact (((Mod.refl noF w).alloc _).trans0 Hm2.out).trans (((Mod.refl (fun x=>x=w.heap.size) _).setCell (fun _=>rfl) _).setCell (fun _=>rfl) _) fun x hx e=>by omega
  rw[←hwf]
  exact bodyPost_ret (v:=.tuple #[.agg #[.int .i64 2,.int .i64 (-1)],.bool false]) (by simp[results,Tryz.results25,go_sem,z0,z1]) rfl ⟨rfl,hMf⟩
 |true=>
  obtain ⟨hl1,hl6,h20⟩:=manyB_iff.1 hmany
  have hk:cfG ll=allR cRowF 0 ll:=by unfold cfG;rw[hmany];rfl
  obtain ⟨sf,hsf⟩:∃sf,csG ll=sf:=⟨_,rfl⟩
  rw[hsf]
  have Hsf:=Lib.hid hsf
  rw[hk]
  rw[hmany]at HM
  obtain ⟨rc,ra,hres0⟩:∃rc ra,allR cRowF 0 ll=(rc,ra):=⟨_,_,rfl⟩
  rw[hres0]
  have Hres0:=Lib.hid hres0
  have hk2:cfG ll=(rc,ra):=hk.trans hres0
  have Hk2:=Lib.hid hk2
  have H20:=Lib.hid h20
  simp only
  clear hres0 hk hk2 hmany h20 hsf
  go_enter Tryz.func25,Tryz.ntmps25
  go_wp2_with fail
  refine HM.out.mono ?_
  rintro e w1 ⟨rfl,rfl⟩
  go_wp2
  go_loopw [5,6] (fun sv i wr=>∃k:Nat,k≤ll.length∧i=.int .i64 k∧sv=.bool ((ll.take k).all cSafe)∧Mod noF w wr∧wr.heap[w.heap.size]?=some (.cells #[.int .i64 0,.int .i64 0] 27 (0,0))∧∀(j:Nat) y,j<k→ll[j]?=some y→cRowF y=none) (fun _ i _=>ll.length - (intOf i).toNat)
  case atStart=>exact ⟨0,Nat.zero_le _,rfl,rfl,(Mod.refl _ _).alloc _,heap_alloc_new w _,fun j y h=>by omega⟩
  case round=>
   generalize wr=w2 at *
   obtain ⟨k,hk,rfl,rfl,hm,hT0,hall⟩:=hrel
   have Hm:=Lib.hid hm
   have HT0:=Lib.hid hT0
   have Hall:=Lib.hid hall
   clear hT0 hall
   generalize hst:(ll.take k).all cSafe=st at *
   have Hst:=Lib.hid hst
   clear hst
   by_cases hlt:k<ll.length
   ·have hd:decide ((k:Int)<(ll.length:Int))=true:=by simp;omega
    have hki:(k:Int)<(ll.length:Int):=by omega
    obtain ⟨l,hl⟩:∃l,ll[k]?=some l:=⟨_,List.getElem?_eq_getElem hlt⟩
    obtain ⟨a',c',e',hx⟩:=HH.out
    cases e'
    obtain ⟨b,off,u,rfl,hb,hc,hrw⟩:=hx k l hl
    have hc2:=hm.cell hc (fun e=>e)
    have hcal:=thr_ok (hrw.keep hm (fun _ _ e=>e)) (H20.out l (List.mem_of_getElem? hl))
    obtain ⟨ua,uc,rfl,-⟩:=hrw
    have Hcal:=Lib.hid hcal
    have Hl:=Lib.hid hl
    clear hx hl hc hm hcal
    go_wp2_with fail
    refine Hcal.out.mono ?_
    rintro e w3 ⟨rfl,hm3⟩
    have Hm3:=Lib.hid hm3
    have hT3:=hm3.heap HT0.out (fun e=>e)
    have HT3:=Lib.hid hT3
    clear hm3 Hcal
    by_cases hz:(thrF l).1=0
    ·obtain ⟨g1,g2⟩:=thrF_none hz
     rw[hz,g2]
     have Hg1:=Lib.hid g1
     have htk:(ll.take (k+1)).all cSafe=(st&&cSafe l):=by
      rw[List.take_add_one,Hl.out,List.all_append,Hst.out]
      simp
     have Htk:=Lib.hid htk
     generalize cSafe l=cl at *
     clear hz g1 g2 htk hT3
     cases st with
     |false=>
      go_wp2
      go_roundw
      case rel=>
       refine ⟨k+1,by omega,by go_num,by rw[Htk.out];rfl,Hm.out.trans0 Hm3.out,HT3.out,fun j y hj hy=>?_⟩
       by_cases e:j=k
       ·subst e;rw[Hl.out]at hy;cases hy;exact Hg1.out
       ·exact Hall.out j y (by omega) hy
      case measure=>simp[intOf];omega
     |true=>
      go_wp2
      go_roundw
      case rel=>
       refine ⟨k+1,by omega,by go_num,by rw[Htk.out];rfl,Hm.out.trans0 Hm3.out,HT3.out,fun j y hj hy=>?_⟩
       by_cases e:j=k
       ·subst e;rw[Hl.out]at hy;cases hy;exact Hg1.out
       ·exact Hall.out j y (by omega) hy
      case measure=>simp[intOf];omega
    ·obtain ⟨g1,g2⟩:=thrF_some hz
     have hres:=allR_at ll 0 k l _ Hl.out Hall.out g1
     rw[Nat.zero_add]at hres
     obtain ⟨hrc,hra⟩:=Prod.mk.inj (Hres0.out.symm.trans hres)
     have hsf:sf=false:=by
      rw[←Hsf.out]
      unfold csG
      rw[Hk2.out]
      simp only
      rw[show decide (rc=0)=false by simp;omega]
      rfl
     subst hsf
     generalize (thrF l).1=tc at *
     generalize (thrF l).2=ts at *
     subst hrc
     subst hra
     have dg:decide (0<rc)=true:=by simp;omega
     have t0:=cell_of_heap hT3 0
     have t1:=cell_of_heap hT3 1
     have tf0:=free_of_heap hT3 0
     have tf1:=free_of_heap hT3 1
     clear hT3
     replace t0:w3.cell? ⟨w.heap.size,0,none⟩=some (.int .i64 0):=t0
     replace t1:w3.cell? ⟨w.heap.size,1,none⟩=some (.int .i64 0):=t1
     clear hz g1 g2 hres
     go_wp2
     obtain ⟨wf,hwf⟩:∃wf,wf=(w3.setCell ⟨w.heap.size,0,none⟩ (.int .i64 rc)).setCell ⟨w.heap.size,1,none⟩ (.int .i64 k):=⟨_,rfl⟩
     have hh:wf.heap[w.heap.size]?=some (.cells #[.int .i64 rc,.int .i64 k] 27 (0,0)):=by rw[hwf,Qh.heap_setCell_same (Qh.heap_setCell_same HT3.out 0 _) 1 _];rfl
     have z0:wf.cell? ⟨w.heap.size,0,none⟩=some (.int .i64 rc):=by rw[cell_of_heap hh];rfl
     have z1:wf.cell? ⟨w.heap.size,1,none⟩=some (.int .i64 k):=by rw[cell_of_heap hh];rfl
     have hMf:Mod noF w wf:=by rw[hwf];exact (Hm.out.trans0 Hm3.out).trans (((Mod.refl (fun x=>x=w.heap.size) _).setCell (fun _=>rfl) _).setCell (fun _=>rfl) _) fun x hx e=>by omega
     rw[←hwf]
     exact bodyPost_ret (v:=.tuple #[.agg #[.int .i64 rc,.int .i64 k],.bool false]) (by simp[results,Tryz.results25,go_sem,z0,z1]) rfl ⟨rfl,hMf⟩
   ·have hd:decide ((k:Int)<(ll.length:Int))=false:=by simp;omega
    obtain rfl:k=ll.length:=by omega
    have hst2:=Hst.out
    rw[List.take_length]at hst2
    have hno:=allR_none (rf:=cRowF) ll 0 (fun j y hy=>Hall.out j y (List.getElem?_eq_some_iff.1 hy).1 hy)
    obtain ⟨rfl,rfl⟩:=Prod.mk.inj (Hres0.out.symm.trans hno)
    have hsf:sf=st:=by
     rw[←Hsf.out]
     unfold csG
     rw[Hk2.out,hst2]
     rfl
    subst hsf
    clear hst2 hno
    go_wp2_with fail
    refine (fine_ok _).mono ?_
    rintro e w3 ⟨rfl,hm3⟩
    have Hm3:=Lib.hid hm3
    have hT3:=hm3.heap HT0.out (fun e=>e)
    have HT3:=Lib.hid hT3
    have t0:=cell_of_heap hT3 0
    have t1:=cell_of_heap hT3 1
    have tf0:=free_of_heap hT3 0
    have tf1:=free_of_heap hT3 1
    clear hT3 hm3
    replace t0:w3.cell? ⟨w.heap.size,0,none⟩=some (.int .i64 0):=t0
    replace t1:w3.cell? ⟨w.heap.size,1,none⟩=some (.int .i64 0):=t1
    go_wp2
    obtain ⟨wf,hwf⟩:∃wf,wf=(w3.setCell ⟨w.heap.size,0,none⟩ (.int .i64 0)).setCell ⟨w.heap.size,1,none⟩ (.int .i64 (-1)):=⟨_,rfl⟩
    have hh:wf.heap[w.heap.size]?=some (.cells #[.int .i64 0,.int .i64 (-1)] 27 (0,0)):=by rw[hwf,Qh.heap_setCell_same (Qh.heap_setCell_same HT3.out 0 _) 1 _];rfl
    have z0:wf.cell? ⟨w.heap.size,0,none⟩=some (.int .i64 0):=by rw[cell_of_heap hh];rfl
    have z1:wf.cell? ⟨w.heap.size,1,none⟩=some (.int .i64 (-1)):=by rw[cell_of_heap hh];rfl
    have hMf:Mod noF w wf:=by rw[hwf];exact (Hm.out.trans0 Hm3.out).trans (((Mod.refl (fun x=>x=w.heap.size) _).setCell (fun _=>rfl) _).setCell (fun _=>rfl) _) fun x hx e=>by omega
    rw[←hwf]
    exact bodyPost_ret (v:=.tuple #[.agg #[.int .i64 0,.int .i64 (-1)],.bool sf]) (by simp[results,Tryz.results25,go_sem,z0,z1]) rfl ⟨rfl,hMf⟩
end
end Go.Proofs.YtppihkneeolomaaGreatDoor
