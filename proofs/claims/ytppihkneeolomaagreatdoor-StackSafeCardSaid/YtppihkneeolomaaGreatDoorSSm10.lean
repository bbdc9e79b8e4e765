/- Texts that belong together, joined. -/
import Derived.Test.YtppihkneeolomaaGreatDoorSSSkinds2
import Derived.Test.YtppihkneeolomaaGreatDoorSSm3
import Derived.LaidLaws
import Derived.SliceStrings
import Derived.ChangeShapes
import Derived.Test.YtppihkneeolomaaGreatDoorSSm2
import Derived.Test.YtppihkneeolomaaGreatDoorSSm7
import Derived.Test.YtppihkneeolomaaGreatDoorSSm4
import Derived.Test.YtppihkneeolomaaGreatDoorSSm6
import Derived.Test.YtppihkneeolomaaGreatDoorSSm1
import Derived.Test.YtppihkneeolomaaGreatDoorSSm8
import Derived.Test.YtppihkneeolomaaGreatDoorSSStop
import Derived.ChangeArms
import Derived.Test.YtppihkneeolomaaGreatDoorSSm9
import Derived.Test.YtppihkneeolomaaGreatDoorSSNewWalk
set_option linter.unusedVariables false
set_option linter.unusedSimpArgs false
set_option linter.unusedSectionVars false
set_option maxHeartbeats 64000000
set_option maxRecDepth 100000
namespace Go.Proofs.YtppihkneeolomaaGreatDoor
section
open Go.RowKit Qs Qh
variable {N:Nat}{w w':World}{v u:Value}{ll:List (List ROp)}{l:List ROp}{rf:List ROp→Option Int}
def allR(rf:List ROp→Option Int):Nat→List (List ROp)→Int × Int
 |_,[]=>(0,-1)
 |i,l :: r=>match rf l with
  |some c=>(c,i)
  |none=>allR rf (i+1) r
theorem allR_at:∀(ll:List (List ROp)) (i k:Nat) (l:List ROp) (c:Int),ll[k]?=some l→(∀(j:Nat) y,j<k→ll[j]?=some y→rf y=none)→rf l=some c→allR rf i ll=(c,((i+k:Nat):Int))
 |[],i,k,l,c,h,_,_=>by simp at h
 |y :: ll,i,0,l,c,h,_,h0=>by
  simp at h;subst h;unfold allR;rw[h0];rfl
 |y :: ll,i,k+1,l,c,h,ha,h0=>by
  have hy:=ha 0 y (by omega) rfl;have:=allR_at ll (i+1) k l c (by simpa using h) (fun j z hj hz=>ha (j+1) z (by omega) (by simpa using hz)) h0;unfold allR;rw[hy];show allR rf (i+1) ll=_;rw[this,show i+1+k=i+(k+1) by omega]
theorem allR_none:∀(ll:List (List ROp)) (i:Nat),(∀(j:Nat) y,ll[j]?=some y→rf y=none)→allR rf i ll=(0,-1)
 |[],i,_=>rfl
 |y :: ll,i,h=>by
  unfold allR;rw[h 0 y rfl];exact allR_none ll (i+1) fun j z hz=>h (j+1) z (by simpa using hz)
theorem allR_cases:∀(ll:List (List ROp)) (i:Nat),(allR rf i ll=(0,-1)∧∀l∈ll,rf l=none)∨∃(k:Nat) (l:List ROp) (c:Int),ll[k]?=some l∧rf l=some c∧allR rf i ll=(c,((i+k:Nat):Int))∧∀(j:Nat) y,j<k→ll[j]?=some y→rf y=none
 |[],i=>.inl ⟨rfl,fun _ h=>by cases h⟩
 |y :: ll,i=>by
  cases hy:rf y with
  |some c=>exact .inr ⟨0,y,c,rfl,hy,by unfold allR;rw[hy];rfl,fun j z hj=>by omega⟩
  |none=>
   rcases allR_cases ll (i+1)with ⟨h,h2⟩|⟨k,l,c,h1,h2,h3,h4⟩
   ·refine .inl ⟨by unfold allR;rw[hy];exact h,fun l hl=>?_⟩
    rcases List.mem_cons.1 hl with rfl|hl
    ·exact hy
    ·exact h2 l hl
   ·refine .inr ⟨k+1,l,c,by simpa using h1,h2,?_,fun j z hj hz=>?_⟩
    ·unfold allR;rw[hy];show allR rf (i+1) ll=_;rw[h3,show i+1+k=i+(k+1) by omega]
    ·cases j with
     |zero=>simp at hz;subst hz;exact hy
     |succ j=>exact h4 j z (by omega) (by simpa using hz)
def memK(ks:List ByteArray)(s:ByteArray):Bool:=ks.any fun k=>decide (k=s)
theorem memK_iff{ks:List ByteArray}{s:ByteArray}:memK ks s=true↔s∈ks:=by
 unfold memK;rw[List.any_eq_true];constructor
 ·rintro ⟨k,h,e⟩;rw[←of_decide_eq_true e];exact h
 ·exact fun h=>⟨s,h,by simp⟩
theorem memK_snoc(ks:List ByteArray)(k s:ByteArray):memK (ks++[k]) s=(memK ks s||decide (k=s)):=by
 unfold memK;simp
def kfOpG(W:ByteArray)(ks:List ByteArray)(x:ROp):Int:=if x.1=W then (if x.2<1∨1000<x.2 then 2 else 0)else if memK ks x.1=true∧x.2=0 then 0 else 3
def rowG(W:ByteArray)(ks:List ByteArray)(l:List ROp):Option Int:=(l.map (kfOpG W ks)).find? fun c=>decide (c≠0)
def kfG(W:ByteArray)(ks:List ByteArray)(ll:List (List ROp)):Int × Int:=if manyB ll then allR (rowG W ks) 0 ll else (2,-1)
variable {W:ByteArray}{ks:List ByteArray}
theorem rowG_at:∀(l:List ROp) (q:Nat) (x:ROp),l[q]?=some x→(∀(j:Nat) y,j<q→l[j]?=some y→kfOpG W ks y=0)→kfOpG W ks x≠0→rowG W ks l=some (kfOpG W ks x)
 |[],q,x,h,_,_=>by simp at h
 |y :: l,0,x,h,_,h0=>by
  simp at h;subst h;unfold rowG;simp[h0]
 |y :: l,q+1,x,h,ha,h0=>by
  have hy:=ha 0 y (by omega) rfl;have:=rowG_at l q x (by simpa using h) (fun j z hj hz=>ha (j+1) z (by omega) (by simpa using hz)) h0;unfold rowG at this ⊢;rw[List.map_cons,List.find?_cons_of_neg (by simp[hy])];exact this
theorem rowG_none{l:List ROp}(h:∀(j:Nat) y,l[j]?=some y→kfOpG W ks y=0):rowG W ks l=none:=by
 unfold rowG;rw[List.find?_eq_none];intro c hc;obtain ⟨y,hy,rfl⟩:=List.mem_map.1 hc;obtain ⟨j,hj⟩:=List.getElem?_of_mem hy;simp[h j y hj]
theorem rowG_num{l:List ROp}{c:Int}(h:rowG W ks l=some c):c=2∨c=3:=by
 unfold rowG at h;have h1:=List.find?_some h;obtain ⟨x,hx,rfl⟩:=List.mem_map.1 (List.mem_of_find?_eq_some h);simp only[decide_eq_true_eq]at h1;unfold kfOpG at h1 ⊢
 split
 ·split
  ·exact .inl rfl
  ·rename_i h2 h3;rw[if_pos h2,if_neg h3]at h1;exact absurd rfl h1
 ·split
  ·rename_i h2 h3;rw[if_neg h2,if_pos h3]at h1;exact absurd rfl h1
  ·exact .inr rfl
theorem kfG_pos(ll:List (List ROp)):(kfG W ks ll=(0,-1))∨((kfG W ks ll).1=2∨(kfG W ks ll).1=3):=by
 unfold kfG
 split
 ·rcases allR_cases (rf:=rowG W ks) ll 0 with ⟨h,_⟩|⟨k,l',c,h1,h2,h3,h4⟩
  ·exact .inl h
  ·rw[h3];exact .inr (rowG_num h2)
 ·exact .inr (.inl rfl)
def KsAt(w:World)(g:Nat)(ks:List ByteArray):Prop:=∀(i:Nat) x,ks[i]?=some x→w.cell? ⟨g,i,none⟩=some (.string x)
theorem KsAt.keep{g:Nat}(h:KsAt w g ks){F:Nat→Prop}(hM:Mod F w w')(hF:¬F g):KsAt w' g ks:=fun i x hi=>hM.cell (h i x hi) hF
end
section
open Go.RowKit Qs Qh
variable {N:Nat}{w w':World}{v u:Value}{ll:List (List ROp)}{l:List ROp}{W:ByteArray}{ks:List ByteArray}
def IdxPost(ks:List ByteArray)(s:ByteArray)(w:World)(e:Ending)(w':World):Prop:=∃n:Int,e=.returned (.int .i64 n)∧w'=w∧(s∈ks→0≤n)∧(¬s∈ks→n = -1)
def IdlPost(ll:List (List ROp))(w:World)(e:Ending)(w':World):Prop:=∃n:Int,e=.returned (.int .i64 n)∧w'=w∧((∀l∈ll,l.length≤20)→n = -1)∧(¬(∀l∈ll,l.length≤20)→0≤n)
theorem indexK(w:World)(g:Nat)(ks:List ByteArray)(s:ByteArray)(hg:KsAt w g ks)(hl:ks.length≤1000) :
  Calls Tryz.prog 93 #[.slice (some ⟨g,0,none⟩) ks.length ks.length,.string s] w (IdxPost ks s w):=by
 have Hg:=Lib.hid hg;clear hg
 go_enter Tryz.func93,Tryz.ntmps93
 go_wp2
 go_loop [5,8] (fun j i=>∃k:Nat,k≤ks.length∧i=.int .i64 k∧¬s∈ks.take k) (fun _ i=>ks.length - (intOf i).toNat)
 case atStart=>exact ⟨0,Nat.zero_le _,rfl,by simp⟩
 case round=>
  obtain ⟨k,hk,rfl,hno⟩:=hrel;have Hno:=Lib.hid hno;clear hno
  by_cases hlt:k<ks.length
  ·have hd:decide ((k:Int)<(ks.length:Int))=true:=by simp;omega
   have hki:(k:Int)<(ks.length:Int):=by omega
   obtain ⟨y,hy⟩:∃y,ks[k]?=some y:=⟨_,List.getElem?_eq_getElem hlt⟩;have hyc:=Hg.out k y hy;have hmem:=List.mem_of_getElem? hy
   have htk:ks.take (k+1)=ks.take k++[y]:=by rw[List.take_add_one,hy];rfl
   have Htk:=Lib.hid htk;have Hmem:=Lib.hid hmem;clear hy htk hmem
   by_cases hxy:y=s
   ·subst hxy;have ey:=str_eq y;go_wp2;go_ret;exact ⟨_,rfl,rfl,fun _=>by omega,fun h=>absurd Hmem.out h⟩
   ·have ey:(s.toList==y.toList)=false:=str_ne fun e=>hxy e.symm;have ey2:(y.toList==s.toList)=false:=str_ne hxy;go_wp2
    go_round
    case rel=>exact ⟨k+1,by omega,by go_num,by rw[Htk.out];intro h;rcases List.mem_append.1 h with h|h;exact Hno.out h;exact hxy (List.mem_singleton.1 h).symm⟩
    case measure=>simp[intOf];omega
  ·have hd:decide ((k:Int)<(ks.length:Int))=false:=by simp;omega
   obtain rfl:k=ks.length:=by omega
   have hno:=Hno.out;rw[List.take_length]at hno;go_wp2;go_ret;exact ⟨-1,rfl,rfl,fun h=>absurd h hno,fun _=>rfl⟩
theorem containsK(w:World)(g:Nat)(ks:List ByteArray)(s:ByteArray)(hg:KsAt w g ks)(hl:ks.length≤1000) :
  Calls Tryz.prog 68 #[.slice (some ⟨g,0,none⟩) ks.length ks.length,.string s] w fun e w'=>e=.returned (.bool (memK ks s))∧w'=w:=by
 have Hcall:=Lib.hid (indexK w g ks s hg hl);clear hg
 by_cases hs:s∈ks
 ·have ds:memK ks s=true:=memK_iff.2 hs;rw[ds]
  go_enter Tryz.func68,Tryz.ntmps68
  go_wp2_with fail
  refine Hcall.out.mono ?_;rintro e w' ⟨n,rfl,rfl,h1,h2⟩
  have d:decide ((0:Int)≤n)=true:=by simpa using h1 hs
  clear h1 h2 hs;go_wp2;go_ret;exact ⟨rfl,rfl⟩
 ·have ds:memK ks s=false:=by cases h:memK ks s with
   |true=>exact absurd (memK_iff.1 h) hs
   |false=>rfl
  rw[ds]
  go_enter Tryz.func68,Tryz.ntmps68
  go_wp2_with fail
  refine Hcall.out.mono ?_;rintro e w' ⟨n,rfl,rfl,h1,h2⟩;obtain rfl:=h2 hs;clear h1 h2 hs;go_wp2;go_ret;exact ⟨rfl,rfl⟩
theorem longOpG(w:World)(a:Option Addr)(n c:Nat)(hn:n≤maxLen):Calls Tryz.prog 67 #[.slice a n c] w fun e w'=>e=.returned (.bool (decide (20<n)))∧w'=w:=by
 by_cases h:20<n
 ·have d:decide ((20:Int)<(n:Int))=true:=by simp;omega
  have d2:decide (20<n)=true:=by simpa using h
  rw[d2]
  go_enter Tryz.func67,Tryz.ntmps67
  go_wp2;go_ret;exact ⟨rfl,rfl⟩
 ·have d:decide ((20:Int)<(n:Int))=false:=by simp;omega
  have d2:decide (20<n)=false:=by simpa using h
  rw[d2]
  go_enter Tryz.func67,Tryz.ntmps67
  go_wp2;go_ret;exact ⟨rfl,rfl⟩
theorem indexLongG(H:RIn N w v ll)(hrow:∀l∈ll,l.length≤30)(hl:ll.length≤1000) :
  Calls Tryz.prog 92 #[v,.func (.func 67) #[] #[]] w (IdlPost ll w):=by
 obtain ⟨a,c,rfl,hx⟩:=H;have Hx:=Lib.hid hx;have Hrow:=Lib.hid hrow;clear hx hrow
 go_enter Tryz.func92,Tryz.ntmps92
 go_wp2
 go_loop [8] (fun i=>∃k:Nat,k≤ll.length∧i=.int .i64 k∧∀(j:Nat) y,j<k→ll[j]?=some y→y.length≤20) (fun i=>ll.length - (intOf i).toNat)
 case atStart=>exact ⟨0,Nat.zero_le _,rfl,fun j y h=>by omega⟩
 case round=>
  obtain ⟨k,hk,rfl,hall⟩:=hrel;have Hall:=Lib.hid hall;clear hall
  by_cases hlt:k<ll.length
  ·have hd:decide ((k:Int)<(ll.length:Int))=true:=by simp;omega
   have hki:(k:Int)<(ll.length:Int):=by omega
   obtain ⟨l,hl⟩:∃l,ll[k]?=some l:=⟨_,List.getElem?_eq_getElem hlt⟩;obtain ⟨b,off,u,rfl,hb,hc,⟨ua,uc,rfl,-⟩⟩:=Hx.out k l hl;have hmem:=List.mem_of_getElem? hl;have hcall:=longOpG w ua l.length uc (by have:=Hrow.out l hmem;unfold maxLen;omega);have Hl:=Lib.hid hl;have Hmem:=Lib.hid hmem
   by_cases h20:20<l.length
   ·rw[show decide (20<l.length)=true by simpa using h20]at hcall;have Hcall:=Lib.hid hcall;clear hcall hl hmem
    go_wp2_with fail
    refine Hcall.out.mono ?_;rintro e w' ⟨rfl,rfl⟩;go_wp2;go_ret;exact ⟨_,rfl,rfl,fun h=>by have:=h l Hmem.out;omega,fun _=>by omega⟩
   ·rw[show decide (20<l.length)=false by simpa using h20]at hcall;have Hcall:=Lib.hid hcall;clear hcall hl hmem
    go_wp2_with fail
    refine Hcall.out.mono ?_;rintro e w' ⟨rfl,rfl⟩;go_wp2
    go_round
    case rel=>
     refine ⟨k+1,by omega,by go_num,fun j y hj hy=>?_⟩
     by_cases e:j=k
     ·subst e;rw[Hl.out]at hy;cases hy;omega
     ·exact Hall.out j y (by omega) hy
    case measure=>simp[intOf];omega
  ·have hd:decide ((k:Int)<(ll.length:Int))=false:=by simp;omega
   have hnone:∀l∈ll,l.length≤20:=fun l hl=>by
    obtain ⟨i,hi⟩:=List.getElem?_of_mem hl;exact Hall.out i l (by have:=(List.getElem?_eq_some_iff.1 hi).1;omega) hi
   go_wp2;go_ret;exact ⟨-1,rfl,rfl,fun _=>rfl,fun h=>absurd hnone h⟩
theorem containsLongG(H:RIn N w v ll)(hrow:∀l∈ll,l.length≤30)(hl:ll.length≤1000)(b:Bool)(hb:b=true↔¬∀l∈ll,l.length≤20) :
  Calls Tryz.prog 66 #[v,.func (.func 67) #[] #[]] w fun e w'=>e=.returned (.bool b)∧w'=w:=by
 have Hcall:=Lib.hid (indexLongG H hrow hl);clear H hrow
 cases b with
 |true=>
  go_enter Tryz.func66,Tryz.ntmps66
  go_wp2_with fail
  refine Hcall.out.mono ?_;rintro e w' ⟨n,rfl,rfl,h1,h2⟩
  have d:decide ((0:Int)≤n)=true:=by simpa using h2 (by simpa using hb)
  clear h1 h2 hb;go_wp2;go_ret;exact ⟨rfl,rfl⟩
 |false=>
  go_enter Tryz.func66,Tryz.ntmps66
  go_wp2_with fail
  refine Hcall.out.mono ?_;rintro e w' ⟨n,rfl,rfl,h1,h2⟩
  obtain rfl:=h1 (by
   by_cases h:∀l∈ll,l.length≤20
   ·exact h
   ·exact absurd (hb.2 h) (by simp))
  clear h1 h2 hb;go_wp2;go_ret;exact ⟨rfl,rfl⟩
theorem manyB_iff:manyB ll=true↔1≤ll.length∧ll.length≤6∧∀l∈ll,l.length≤20:=by
 unfold manyB;simp[and_assoc]
theorem manyB_false(h:manyB ll=false):ll.length<1∨6<ll.length∨¬∀l∈ll,l.length≤20:=by
 by_cases h1:ll.length<1
 ·exact .inl h1
 ·by_cases h2:6<ll.length
  ·exact .inr (.inl h2)
  ·refine .inr (.inr fun h3=>?_);have:=manyB_iff.2 ⟨by omega,by omega,h3⟩;rw[this]at h;cases h
variable {a:Nat→Addr}
theorem checkG_many(E:ErrsS w a)(H:RIn N w v ll)(g:Nat)(hlen:ll.length≤10)(hrow:∀l∈ll,l.length≤30)(hm:manyB ll=false) :
  Calls Tryz.prog 42 #[v,.string W,.slice (some ⟨g,0,none⟩) ks.length ks.length] w fun e w'=>∃ev,e=.returned ev∧ErrIs a w' ev 2 (-1)∧Mod noF w w':=by
 have hv:=E.v1;have fin:∀w',ErrIs a w' (errV a 1) 2 (-1):=fun w'=>.inr (.inl ⟨1,by omega,rfl,rfl,rfl⟩);unfold errV at fin;have Fin:=Lib.hid fin;clear fin E
 by_cases h1:ll.length<1
 ·obtain ⟨a',c,rfl,hx⟩:=H
  have d1:decide ((ll.length:Int)<1)=true:=by simp;omega
  clear hx
  go_enter Tryz.func42,Tryz.ntmps42
  go_wp2;go_ret;exact ⟨_,rfl,Fin.out _,Mod.refl _ _⟩
 have d1:decide ((ll.length:Int)<1)=false:=by simp;omega
 by_cases h6:6<ll.length
 ·obtain ⟨a',c,rfl,hx⟩:=H
  have d2:decide ((6:Int)<(ll.length:Int))=true:=by simp;omega
  clear hx
  go_enter Tryz.func42,Tryz.ntmps42
  go_wp2;go_ret;exact ⟨_,rfl,Fin.out _,Mod.refl _ _⟩
 have d2:decide ((6:Int)<(ll.length:Int))=false:=by simp;omega
 have hcall:=containsLongG H hrow (by omega) true ⟨fun _=>by
  rcases manyB_false hm with h|h|h
  ·omega
  ·omega
  ·exact h,fun _=>rfl⟩
 have Hcall:=Lib.hid hcall;obtain ⟨a',c,rfl,hx⟩:=H;clear hx hcall hrow hm
 go_enter Tryz.func42,Tryz.ntmps42
 go_wp2_with fail
 refine Hcall.out.mono ?_;rintro e w' ⟨rfl,rfl⟩;go_wp2;go_ret;exact ⟨_,rfl,Fin.out _,Mod.refl _ _⟩
theorem checkG_ok(E:ErrsS w a)(H:RIn N w v ll)(g:Nat)(hg:KsAt w g ks)(hkl:ks.length≤10)(hlen:ll.length≤10)(hrow:∀l∈ll,l.length≤30)(hm:manyB ll=true) :
  Calls Tryz.prog 42 #[v,.string W,.slice (some ⟨g,0,none⟩) ks.length ks.length] w fun e w'=>∃ev,e=.returned ev∧ErrIs a w' ev (allR (rowG W ks) 0 ll).1 (allR (rowG W ks) 0 ll).2∧Mod noF w w':=by
 obtain ⟨hl1,hl6,h20⟩:=manyB_iff.1 hm;have hcall:=containsLongG H hrow (by omega) false (by constructor;(intro h;cases h);exact fun h=>absurd h20 h);have HH:=Lib.hid H;obtain ⟨a',c,rfl,hx⟩:=H
 have d1:decide ((ll.length:Int)<1)=false:=by simp;omega
 have d2:decide ((6:Int)<(ll.length:Int))=false:=by simp;omega
 obtain ⟨rc,ra,hres0⟩:∃rc ra,allR (rowG W ks) 0 ll=(rc,ra):=⟨_,_,rfl⟩;rw[hres0];have Hres0:=Lib.hid hres0;simp only;have Hx:=Lib.hid hx;have H20:=Lib.hid h20;have Hg:=Lib.hid hg;have HE:=Lib.hid E;have Hcall:=Lib.hid hcall;have e1:=str_eq W;clear hx h20 hcall hg hres0 E hrow hm
 go_enter Tryz.func42,Tryz.ntmps42
 go_wp2_with fail
 refine Hcall.out.mono ?_;rintro e w' ⟨rfl,rfl⟩;go_wp2
 go_loopw [26] (fun i wr=>∃k:Nat,k≤ll.length∧i=.int .i64 k∧Mod noF w' wr∧∀(j:Nat) y,j<k→ll[j]?=some y→rowG W ks y=none) (fun i _=>ll.length - (intOf i).toNat)
 case atStart=>exact ⟨0,Nat.zero_le _,rfl,Mod.refl _ _,fun j y h=>by omega⟩
 case round=>
  generalize wr=w2 at *;obtain ⟨k,hk,rfl,hm,hall⟩:=hrel;have Hall:=Lib.hid hall;clear hall
  by_cases hlt:k<ll.length
  ·have hd:decide ((k:Int)<(ll.length:Int))=true:=by simp;omega
   have hki:(k:Int)<(ll.length:Int):=by omega
   obtain ⟨l,hl⟩:∃l,ll[k]?=some l:=⟨_,List.getElem?_eq_getElem hlt⟩;obtain ⟨b,off,u,rfl,hb,hc,hrow⟩:=Hx.out k l hl;have hc2:=hm.cell hc (fun e=>e);obtain ⟨ua,uc,rfl,hxx⟩:=hrow.keep hm (fun _ _ e=>e);have Hxx:=Lib.hid hxx;have Hm:=Lib.hid hm;have h20l:=H20.out l (List.mem_of_getElem? hl)
   have Hl:=Lib.hid hl;clear hxx hrow hc hl hm;go_wp2
   go_loopw [33] (fun i wq=>∃q:Nat,q≤l.length∧i=.int .i64 q∧Mod noF w2 wq∧∀(j:Nat) y,j<q→l[j]?=some y→kfOpG W ks y=0) (fun i _=>l.length - (intOf i).toNat)
   case atStart=>exact ⟨0,Nat.zero_le _,rfl,Mod.refl _ _,fun j y h=>by omega⟩
   case round=>
    generalize wr=w3 at *;obtain ⟨q,hq,rfl,hm2,hall⟩:=hrel;have Hall3:=Lib.hid hall;clear hall
    by_cases hlq:q<l.length
    ·have hd2:decide ((q:Int)<(l.length:Int))=true:=by simp;omega
     have hqi:(q:Int)<(l.length:Int):=by omega
     obtain ⟨x,hxl⟩:∃x,l[q]?=some x:=⟨_,List.getElem?_eq_getElem hlq⟩;obtain ⟨ub,uoff,rfl,hub,h0,h1⟩:=Hxx.out q x hxl;have h0:=hm2.cell h0 (fun e=>e);have h1:=hm2.cell h1 (fun e=>e);have Hm2:=Lib.hid hm2;have Hxl:=Lib.hid hxl;clear hxl hm2;obtain ⟨xs,xn⟩:=x;simp only at h0 h1
     have hE3:=(HE.out.keep (Hm.out.trans0 Hm2.out)).keep ((Mod.refl noF w3).alloc (.cells #[.string xs,.int .i64 xn] 88));have hbd:=hE3.v1;have hsh:=hE3.v2
     by_cases hput:xs=W
     ·subst hput
      by_cases hbad:xn<1∨1000<xn
      ·have hf:kfOpG xs ks (xs,xn)=2:=by unfold kfOpG;simp[hbad]
       have hrF:=rowG_at l q _ Hxl.out Hall3.out (by rw[hf];decide);rw[hf]at hrF;have hres:=allR_at ll 0 k l 2 Hl.out Hall.out hrF;rw[Nat.zero_add]at hres;obtain ⟨rfl,rfl⟩:=Prod.mk.inj (Hres0.out.symm.trans hres);clear hres hrF hf hE3
       by_cases hb1:xn<1
       ·have d3:decide (xn<1)=true:=by simpa using hb1
        go_wp2;go_ret;exact ⟨_,rfl,.inr (.inr ⟨1,_,by omega,rfl,rfl,by simp,by simp,by simp[errV]⟩),((Hm.out.trans0 Hm2.out).alloc _).alloc _⟩
       ·have d3:decide (xn<1)=false:=by simpa using hb1
        have d4:decide (1000<xn)=true:=by simp;omega
        go_wp2;go_ret;exact ⟨_,rfl,.inr (.inr ⟨1,_,by omega,rfl,rfl,by simp,by simp,by simp[errV]⟩),((Hm.out.trans0 Hm2.out).alloc _).alloc _⟩
      ·have d3:decide (xn<1)=false:=by simp;omega
       have d4:decide (1000<xn)=false:=by simp;omega
       have hf:kfOpG xs ks (xs,xn)=0:=by unfold kfOpG;simp[hbad]
       have Hf:=Lib.hid hf;clear hf hE3;go_wp2
       go_roundw
       case rel=>
        refine ⟨q+1,by omega,by go_num,Hm2.out.alloc _,fun j y hj hy=>?_⟩
        by_cases e:j=q
        ·subst e;rw[Hxl.out]at hy;cases hy;exact Hf.out
        ·exact Hall3.out j y (by omega) hy
       case measure=>simp[intOf];omega
     ·have ep:(xs.toList==W.toList)=false:=str_ne hput;have hgc:=Hg.out.keep ((Hm.out.trans0 Hm2.out).alloc (.cells #[.string xs,.int .i64 xn] 88)) (fun e=>e);have hcall:=containsK _ g ks xs hgc (by omega)
      cases hmem:memK ks xs with
      |true=>
       rw[hmem]at hcall;have Hcall:=Lib.hid hcall;clear hcall hgc
       by_cases hx0:xn=0
       ·subst hx0
        have hf:kfOpG W ks (xs,0)=0:=by unfold kfOpG;rw[if_neg hput];simp[hmem]
        have Hf:=Lib.hid hf;clear hf hE3 hmem
        go_wp2_with fail
        refine Hcall.out.mono ?_;rintro e w9 ⟨rfl,rfl⟩;go_wp2
        go_roundw
        case rel=>
         refine ⟨q+1,by omega,by go_num,Hm2.out.alloc _,fun j y hj hy=>?_⟩
         by_cases e:j=q
         ·subst e;rw[Hxl.out]at hy;cases hy;exact Hf.out
         ·exact Hall3.out j y (by omega) hy
        case measure=>simp[intOf];omega
       ·have n2:(xn==0)=false:=by simpa using hx0
        have n1:decide (xn=0)=false:=by simpa using hx0
        have hf:kfOpG W ks (xs,xn)=3:=by unfold kfOpG;rw[if_neg hput];simp[hx0]
        have hrF:=rowG_at l q _ Hxl.out Hall3.out (by rw[hf];decide);rw[hf]at hrF;have hres:=allR_at ll 0 k l 3 Hl.out Hall.out hrF;rw[Nat.zero_add]at hres;obtain ⟨rfl,rfl⟩:=Prod.mk.inj (Hres0.out.symm.trans hres);clear hres hrF hf hE3 hmem
        go_wp2_with fail
        refine Hcall.out.mono ?_;rintro e w9 ⟨rfl,rfl⟩;go_wp2;go_ret;exact ⟨_,rfl,.inr (.inr ⟨2,_,by omega,rfl,rfl,by simp,by simp,by simp[errV]⟩),((Hm.out.trans0 Hm2.out).alloc _).alloc _⟩
      |false=>
       rw[hmem]at hcall;have Hcall:=Lib.hid hcall
       have hf:kfOpG W ks (xs,xn)=3:=by unfold kfOpG;rw[if_neg hput];simp[hmem]
       have hrF:=rowG_at l q _ Hxl.out Hall3.out (by rw[hf];decide);rw[hf]at hrF;have hres:=allR_at ll 0 k l 3 Hl.out Hall.out hrF;rw[Nat.zero_add]at hres;obtain ⟨rfl,rfl⟩:=Prod.mk.inj (Hres0.out.symm.trans hres);clear hcall hgc hres hrF hf hE3 hmem
       go_wp2_with fail
       refine Hcall.out.mono ?_;rintro e w9 ⟨rfl,rfl⟩;go_wp2;go_ret;exact ⟨_,rfl,.inr (.inr ⟨2,_,by omega,rfl,rfl,by simp,by simp,by simp[errV]⟩),((Hm.out.trans0 Hm2.out).alloc _).alloc _⟩
    ·have hd2:decide ((q:Int)<(l.length:Int))=false:=by simp;omega
     have Hm2:=Lib.hid hm2;have hrF:rowG W ks l=none:=rowG_none fun j y hj=>Hall3.out j y (by have:=(List.getElem?_eq_some_iff.1 hj).1;omega) hj;have HrF:=Lib.hid hrF;clear hm2 hrF;go_wp2
     go_roundw
     case rel=>
      refine ⟨k+1,by omega,by go_num,Hm.out.trans0 Hm2.out,fun j y hj hy=>?_⟩
      by_cases e:j=k
      ·subst e;rw[Hl.out]at hy;cases hy;exact HrF.out
      ·exact Hall.out j y (by omega) hy
     case measure=>simp[intOf];omega
  ·have hd:decide ((k:Int)<(ll.length:Int))=false:=by simp;omega
   have hres:=allR_none (rf:=rowG W ks) ll 0 fun j y hj=>Hall.out j y (by have:=(List.getElem?_eq_some_iff.1 hj).1;omega) hj;obtain ⟨rfl,rfl⟩:=Prod.mk.inj (Hres0.out.symm.trans hres);have Hm:=Lib.hid hm;clear hm hres;go_wp2;go_ret;exact ⟨_,rfl,.inl ⟨rfl,rfl,rfl⟩,Hm.out⟩
theorem checkG(E:ErrsS w a)(H:RIn N w v ll)(g:Nat)(hg:KsAt w g ks)(hkl:ks.length≤10)(hlen:ll.length≤10)(hrow:∀l∈ll,l.length≤30) :
  Calls Tryz.prog 42 #[v,.string W,.slice (some ⟨g,0,none⟩) ks.length ks.length] w fun e w'=>∃ev,e=.returned ev∧ErrIs a w' ev (kfG W ks ll).1 (kfG W ks ll).2∧Mod noF w w':=by
 unfold kfG
 cases hm:manyB ll with
 |false=>exact checkG_many E H g hlen hrow hm
 |true=>exact checkG_ok E H g hg hkl hlen hrow hm
end
section
open Go.RowKit Qs Qh
structure CSt where
 d:Nat
 r:Bool
 w:Bool
 u:Bool
deriving DecidableEq
def c0:CSt:=⟨0,false,false,false⟩
end
section
open Go.RowKit Qs Qh
theorem str_neL{a b:ByteArray}(h:¬a=b):(a.toList==b.toList)=false∧¬a.toList=b.toList:=by
 have h1:=str_ne h;exact ⟨h1,fun e=>by rw[e]at h1;simp at h1⟩
variable {N:Nat}{w w':World}{v u:Value}{l:List ROp}
end
end Go.Proofs.YtppihkneeolomaaGreatDoor
section
namespace Qc
open Qs Qu Qh Go.Proofs.YtppihkneeolomaaGreatDoor
def sopsCode(f tn:Nat):Nat→List SOp→List Instr
 |_,[]=>[]
 |k,x :: l=>sblk f tn k x++sopsCode f tn (k+sinc x) l
def slabs:List SOp→Nat
 |[]=>0
 |x :: l=>sinc x+slabs l
theorem slabs_snoc(x:SOp):∀l,slabs (l++[x])=slabs l+sinc x
 |[]=>by simp[slabs]
 |y :: l=>by simp only[List.cons_append,slabs,slabs_snoc x l];omega
theorem slabs_le:∀l,slabs l≤5*l.length
 |[]=>by simp[slabs]
 |x :: l=>by
  have:=slabs_le l
  have h:sinc x≤5:=by cases x <;> simp[sinc]
  simp only[slabs,List.length_cons];omega
theorem sopsCode_snoc(f tn:Nat)(x:SOp):∀(l:List SOp) (k:Nat),sopsCode f tn k (l++[x])=sopsCode f tn k l++sblk f tn (k+slabs l) x
 |[],k=>by simp[sopsCode,slabs]
 |y :: l,k=>by
  rw[List.cons_append,sopsCode,sopsCode,sopsCode_snoc f tn x l,List.append_assoc];simp only[slabs];rw[show k+sinc y+slabs l=k+(sinc y+slabs l) by omega]
theorem gcode_len2{f:Nat}(h4:f≤4):(gcode f 0).length+(gcode f 1).length≤65∧(gcode f 3).length≤70∧(gcode f 4).length≤70:=by
 have key:∀f<5,(gcode f 0).length+(gcode f 1).length≤65∧(gcode f 3).length≤70∧(gcode f 4).length≤70:=by decide +kernel
 exact key f (by omega)
theorem part_length(f k j:Nat):(part f k j).length=(gcode f j).length:=by unfold part preC;rw[List.length_map]
theorem sblk_len{f:Nat}(h4:f≤4)(tn k:Nat)(x:SOp):(sblk f tn k x).length≤90:=by
 obtain ⟨g1,g3,g4⟩:=gcode_len2 h4
 cases x with
 |push n=>simp[sblk,pushBlk,pushCode]
 |pop=>
  have:=part_length f k 0;have:=part_length f (k+3) 1;simp only[sblk,popBlk,popCode,laterBlk,List.length_append,List.length_cons,List.length_nil];omega
 |flush=>
  have:=part_length f k 4;simp only[sblk,flushBlk,flushTail,List.length_append,List.length_cons,List.length_nil];omega
theorem sopsCode_len{f:Nat}(h4:f≤4)(tn:Nat):∀(l:List SOp) (k:Nat),(sopsCode f tn k l).length≤90*l.length
 |[],k=>by simp[sopsCode]
 |x :: l,k=>by
  have h1:=sopsCode_len h4 tn l (k+sinc x);have h2:=sblk_len h4 tn k x;simp only[sopsCode,List.length_append,List.length_cons];omega
def scode(f tn:Nat)(ops:List SOp):List Instr:=(sopsCode f tn 0 ops++part f (slabs ops) 3)++[⟨20,0,0,0,[]⟩]
theorem push_fine(k:Nat)(hk:k<127):BlkF k (k+1) (pushCode (labN (k+1))):=by
 have h:=(labN_facts (k+1) (by omega)).2.2.2;have ha:=h 0 (by decide);have hb:=h 1 (by decide);have o1:OwnBy (k+1) (labN (k+1)++[46,97]):=⟨by omega,_,rfl,rfl⟩;have o2:OwnBy (k+1) (labN (k+1)++[46,98]):=⟨by omega,_,rfl,rfl⟩
 have hne:labN (k+1)++[46,97]≠labN (k+1)++[46,98]:=fun e=>by simpa using List.append_cancel_left e
 unfold pushCode;replace ha:nameB (labN (k+1)++[46,97])=true:=ha;replace hb:nameB (labN (k+1)++[46,98])=true:=hb;generalize labN (k+1)++[46,97]=L at *;generalize labN (k+1)++[46,98]=M at *
 have hx:¬L=[]:=fun e=>by rw[e]at ha;cases ha
 have hy:¬M=[]:=fun e=>by rw[e]at hb;cases hb
 refine BlkF.of (codeFine_of ?_) fun x hx=>?_
 ·have l1:∀(A B:List UInt8),labelAt A [⟨17,0,0,0,A⟩,⟨6,0,5,0,[]⟩,⟨7,3,0,1,[]⟩,⟨1,1,0,0,[]⟩,⟨1,2,3,0,[]⟩,⟨9,5,1,0,[]⟩,⟨15,0,1,0,B⟩,⟨16,0,0,0,A⟩,⟨17,0,0,0,B⟩] 0=some 0:=fun A B=>by simp[labelAt]
  have l2:labelAt M [⟨17,0,0,0,L⟩,⟨6,0,5,0,[]⟩,⟨7,3,0,1,[]⟩,⟨1,1,0,0,[]⟩,⟨1,2,3,0,[]⟩,⟨9,5,1,0,[]⟩,⟨15,0,1,0,M⟩,⟨16,0,0,0,L⟩,⟨17,0,0,0,M⟩] 0=some 8:=by simp[labelAt,hne]
  have l1':=l1 L M;unfold codeFineB;simp only[List.length_cons,List.length_nil,List.all_cons,List.all_nil,List.range_succ,List.range_zero,List.nil_append,List.cons_append,List.all_append,List.getElem?_cons_zero,List.getElem?_cons_succ,l1',l2];simp[insFine,regB,Qh.z0,ha,hb]
 ·simp only[List.mem_cons,List.not_mem_nil,or_false]at hx
  rcases hx with rfl|rfl|rfl|rfl|rfl|rfl|rfl|rfl|rfl
  all_goals first
   |exact .inl rfl
   |exact .inr ⟨k+1,by omega,by omega,o1⟩
   |exact .inr ⟨k+1,by omega,by omega,o2⟩
end Qc
end
section
namespace Qc
open Qs Qu Qh Go.Proofs.YtppihkneeolomaaGreatDoor
theorem pop_fine(k:Nat)(hk:k<127):BlkF k (k+1) (popCode (labN (k+1))):=by
 have h:=(labN_facts (k+1) (by omega)).2.2.2;have ha:=h 0 (by decide);have hb:=h 1 (by decide);have o1:OwnBy (k+1) (labN (k+1)++[46,97]):=⟨by omega,_,rfl,rfl⟩;have o2:OwnBy (k+1) (labN (k+1)++[46,98]):=⟨by omega,_,rfl,rfl⟩
 have hne:labN (k+1)++[46,97]≠labN (k+1)++[46,98]:=fun e=>by simpa using List.append_cancel_left e
 unfold popCode;replace ha:nameB (labN (k+1)++[46,97])=true:=ha;replace hb:nameB (labN (k+1)++[46,98])=true:=hb;generalize labN (k+1)++[46,97]=L at *;generalize labN (k+1)++[46,98]=M at *;refine BlkF.of (codeFine_of ?_) fun x hx=>?_
 ·have l1:∀(A B:List UInt8),labelAt A [⟨17,0,0,0,A⟩,⟨6,0,5,0,[]⟩,⟨14,0,0,0,B⟩,⟨6,2,0,1,[]⟩,⟨1,1,0,0,[]⟩,⟨9,5,1,0,[]⟩,⟨15,0,1,0,B⟩,⟨16,0,0,0,A⟩,⟨17,0,0,0,B⟩,⟨1,3,0,0,[]⟩] 0=some 0:=fun A B=>by simp[labelAt]
  have l2:labelAt M [⟨17,0,0,0,L⟩,⟨6,0,5,0,[]⟩,⟨14,0,0,0,M⟩,⟨6,2,0,1,[]⟩,⟨1,1,0,0,[]⟩,⟨9,5,1,0,[]⟩,⟨15,0,1,0,M⟩,⟨16,0,0,0,L⟩,⟨17,0,0,0,M⟩,⟨1,3,0,0,[]⟩] 0=some 8:=by simp[labelAt,hne]
  have l1':=l1 L M;unfold codeFineB;simp only[List.length_cons,List.length_nil,List.all_cons,List.all_nil,List.range_succ,List.range_zero,List.nil_append,List.cons_append,List.all_append,List.getElem?_cons_zero,List.getElem?_cons_succ,l1',l2];simp[insFine,regB,Qh.z0,ha,hb]
 ·simp only[List.mem_cons,List.not_mem_nil,or_false]at hx
  rcases hx with rfl|rfl|rfl|rfl|rfl|rfl|rfl|rfl|rfl|rfl
  all_goals first
   |exact .inl rfl
   |exact .inr ⟨k+1,by omega,by omega,o1⟩
   |exact .inr ⟨k+1,by omega,by omega,o2⟩
theorem BlkF.wrap{k j n:Nat}{A B C:List Instr}{p:List UInt8}(hB:BlkF k n B)(hj:OwnBy j p)(hjk:¬(k<j∧j≤n))(hn:nameB p=true)
  (hA:∀x∈A,insFine x=true∧x.op≠17∧(x.to=[]∨x.to=p)) (hC:∀x∈C,insFine x=true∧x.op≠17∧(x.to=[]∨x.to=p)) {k' n':Nat} (h1:k'≤k) (h2:n≤n') (h3:k'<j∧j≤n') :
  BlkF k' n' (A++B++C++[⟨17,0,0,0,p⟩]):=by
 have hp:=Qh.nameB_ne hn
 have hlast:insFine ⟨17,0,0,0,p⟩=true:=by show (Qh.z0 0&&Qh.z0 0&&Qh.z0 0&&nameB p)=true;rw[hn];rfl
 have hBp:∀x∈B,x.to≠p:=fun x hx e=>by
  rcases hB.own x hx with h|⟨i,i1,i2,i3⟩
  ·rw[h]at e;exact hp e.symm
  ·rw[e]at i3;have:=i3.inj hj;subst this;exact hjk ⟨i1,i2⟩
 have hlp:labelAt p (A++B++C++[⟨17,0,0,0,p⟩]) 0=some (A.length+B.length+C.length):=by
  have hno:∀x∈A++B++C,x.op=17→x.to≠p:=fun x hx h17=>by
   rcases List.mem_append.1 hx with h|h
   ·rcases List.mem_append.1 h with h|h
    ·exact absurd h17 (hA x h).2.1
    ·exact hBp x h
   ·exact absurd h17 (hC x h).2.1
  rw[labelAt_skip _ _ hno];simp[labelAt];omega
 have hlb:∀t j,labelAt t B 0=some j→labelAt t (A++B++C++[⟨17,0,0,0,p⟩]) 0=some (A.length+j):=fun t j h=>by
  have:=row_label (A:=A) (B:=B) (C:=C++[⟨17,0,0,0,p⟩]) (to:=t) (fun x hx h17=>absurd h17 (hA x hx).2.1) h
  simpa only[List.append_assoc]using this
 refine ⟨fun x hx=>?_,fun i x hi h17=>?_,fun x hx hne=>?_,fun x hx=>?_⟩
 ·simp only[List.mem_append,List.mem_singleton]at hx
  rcases hx with ((h|h)|h)|h
  ·exact (hA x h).1
  ·exact hB.ins x h
  ·exact (hC x h).1
  ·rw[h];exact hlast
 ·by_cases c1:i<A.length
  ·rw[List.append_assoc,List.append_assoc,List.getElem?_append_left c1]at hi;exact absurd h17 (hA x (List.mem_of_getElem? hi)).2.1
  ·by_cases c2:i<A.length+B.length
   ·rw[List.append_assoc,List.append_assoc,List.getElem?_append_right (by omega),List.getElem?_append_left (by omega)]at hi;rw[hlb _ _ (hB.set _ x hi h17)]
    congr 1;omega
   ·by_cases c3:i<A.length+B.length+C.length
    ·rw[List.append_assoc,List.getElem?_append_right (by simp;omega),List.getElem?_append_left (by simp;omega)]at hi;exact absurd h17 (hC x (List.mem_of_getElem? hi)).2.1
    ·rw[List.getElem?_append_right (by simp;omega)]at hi
     have hi0:i - (A++B++C).length=0:=by
      have:=(List.getElem?_eq_some_iff.1 hi).1
      simpa using this
     rw[hi0]at hi;cases hi;rw[hlp];simp at hi0 c3
     congr 1;omega
 ·simp only[List.mem_append,List.mem_singleton]at hx
  rcases hx with ((h|h)|h)|h
  ·rcases (hA x h).2.2 with e|e
   ·exact absurd e hne
   ·rw[e,hlp];rfl
  ·obtain ⟨j,hj⟩:=Option.isSome_iff_exists.1 (hB.lab x h hne);rw[hlb _ _ hj];rfl
  ·rcases (hC x h).2.2 with e|e
   ·exact absurd e hne
   ·rw[e,hlp];rfl
  ·rw[h];simp only;rw[hlp];rfl
 ·simp only[List.mem_append,List.mem_singleton]at hx
  rcases hx with ((h|h)|h)|h
  ·rcases (hA x h).2.2 with e|e
   ·exact .inl e
   ·exact .inr ⟨j,h3.1,h3.2,e ▸ hj⟩
  ·exact (hB.own x h).imp id fun ⟨i,a,b,c⟩=>⟨i,by omega,by omega,c⟩
  ·rcases (hC x h).2.2 with e|e
   ·exact .inl e
   ·exact .inr ⟨j,h3.1,h3.2,e ▸ hj⟩
  ·rw[h];exact .inr ⟨j,h3.1,h3.2,hj⟩
theorem pushBlk_fine(n:Int)(hn:1≤n∧n≤1000)(k:Nat)(hk:k+2<128):BlkF k (k+2) (pushBlk (labN (k+1)) (labN (k+2)) n):=by
 have hnm:=(labN_facts (k+1) (by omega)).2.2.1
 have r1:regB n 4294967296=true:=by unfold regB;simp;omega
 have h:=(push_fine (k+1) (by omega)).wrap (A:=[⟨10,3,0,0,[]⟩,⟨14,3,0,0,labN (k+1)⟩,⟨0,0,n,0,[]⟩,⟨7,3,0,0,[]⟩]) (C:=[]) (OwnBy.self (j:=k+1) (by omega)) (by omega) hnm (fun x hx=>by
  simp only[List.mem_cons,List.not_mem_nil,or_false]at hx
  rcases hx with rfl|rfl|rfl|rfl
  ·exact ⟨rfl,by simp,.inl rfl⟩
  ·exact ⟨by show (regB 3 8&&Qh.z0 0&&Qh.z0 0&&nameB (labN (k+1)))=true;rw[hnm];rfl,by simp,.inr rfl⟩
  ·exact ⟨by show (regB 0 8&&regB n 4294967296&&Qh.z0 0&&true)=true;rw[r1];rfl,by simp,.inl rfl⟩
  ·exact ⟨rfl,by simp,.inl rfl⟩) (fun x hx=>by cases hx) (k':=k) (n':=k+2) (by omega) (by omega) (by omega)
 rw[List.append_nil]at h;exact h
theorem popBlk_fine(k:Nat)(hk:k+2<128):BlkF k (k+2) (popBlk (labN (k+1)) (labN (k+2))):=by
 have hnm:=(labN_facts (k+2) (by omega)).2.2.1
 have h:=(pop_fine k (by omega)).wrap (A:=[]) (C:=[⟨14,3,0,0,labN (k+2)⟩,⟨6,0,3,0,[]⟩,⟨18,0,0,0,[]⟩]) (OwnBy.self (j:=k+2) (by omega)) (by omega) hnm (fun x hx=>by cases hx) (fun x hx=>by
  simp only[List.mem_cons,List.not_mem_nil,or_false]at hx
  rcases hx with rfl|rfl|rfl
  ·exact ⟨by show (regB 3 8&&Qh.z0 0&&Qh.z0 0&&nameB (labN (k+2)))=true;rw[hnm];rfl,by simp,.inr rfl⟩
  ·exact ⟨rfl,by simp,.inl rfl⟩
  ·exact ⟨rfl,by simp,.inl rfl⟩) (k':=k) (n':=k+2) (by omega) (by omega) (by omega)
 unfold popBlk
 simpa only[List.nil_append,List.append_assoc,List.cons_append]using h
theorem sblk_fine{f:Nat}(h1:1≤f)(h4:f≤4)(tn:Nat)(ht:tn<8)(k:Nat)(hk:k+5<128)(x:SOp)(hx:∀n,x=.push n→1≤n∧n≤1000):BlkF k (k+sinc x) (sblk f tn k x):=by
 cases x with
 |push n=>exact pushBlk_fine n (hx n rfl) k (by omega)
 |pop=>
  have a:=part_fine h1 h4 (show 0<5 by decide) k (by omega);have b:=popBlk_fine (k+1) (by omega);have c:=part_fine h1 h4 (show 1<5 by decide) (k+3) (by omega);have d:=later_fine tn 2 ht (by omega) (k+4) (by omega)
  have h:=((a.append b (by omega) (by omega)).append c (by omega) (by omega)).append d (by omega) (by omega);exact h
 |flush=>exact flushBlk_fine h1 h4 tn 2 ht (by omega) k (by omega)
theorem sopsCode_fine{f:Nat}(h1:1≤f)(h4:f≤4)(tn:Nat)(ht:tn<8):∀(l:List SOp) (k:Nat),(∀n,SOp.push n∈l→1≤n∧n≤1000)→k+slabs l+6<128→BlkF k (k+slabs l) (sopsCode f tn k l)
 |[],k,_,_=>by simpa[sopsCode,slabs]using BlkF.nil k
 |x :: l,k,hp,hk=>by
  simp only[slabs]at hk;have ih:=sopsCode_fine h1 h4 tn ht l (k+sinc x) (fun n hn=>hp n (List.mem_cons_of_mem _ hn)) (by omega);have hb:=sblk_fine h1 h4 tn ht k (by omega) x (fun n hn=>hp n (by rw[hn];simp));have:=hb.append ih (by omega) (by omega);simp only[slabs,sopsCode]
  rw[show k+(sinc x+slabs l)=k+sinc x+slabs l by omega];exact this
theorem scode_fine{f:Nat}(h1:1≤f)(h4:f≤4)(tn:Nat)(ht:tn<8){l:List SOp}(h20:l.length≤20)(hp:∀n,SOp.push n∈l→1≤n∧n≤1000):CodeFine (scode f tn l):=by
 have hl:=slabs_le l;have hc:=sopsCode_len h4 tn l 0;have hg:=part_length f (slabs l) 3;obtain ⟨g1,g3,g4⟩:=gcode_len2 h4;have h:=sopsCode_fine h1 h4 tn ht l 0 hp (by omega);rw[Nat.zero_add]at h
 have h2:=(h.append (part_fine h1 h4 (show 3<5 by decide) (slabs l) (by omega)) (by omega) (by omega)).append (stop_fine _) (by omega) (by omega);exact h2.fine (by simp only[List.length_append,List.length_singleton];omega)
end Qc
namespace Go.Proofs.YtppihkneeolomaaGreatDoor
open Go.RowKit Qs Qh Qc
def kPush:ByteArray:=⟨#[112,117,115,104]⟩
def kPop:ByteArray:=⟨#[112,111,112]⟩
def kFlsh:ByteArray:=⟨#[102,108,117,115,104]⟩
def sK:SOp→ByteArray
 |.push _=>kPush
 |.pop=>kPop
 |.flush=>kFlsh
def sN:SOp→Int
 |.push n=>n
 |_=>0
def sR(x:SOp):ROp:=(sK x,sN x)
def rawS(q:List (List SOp)):List (List ROp):=q.map (·.map sR)
def toS(x:ROp):SOp:=if x.1=kPush then .push x.2 else if x.1=kPop then .pop else .flush
theorem toS_ok{x:ROp}(h:kfOpG kPush [kPop,kFlsh] x=0):sR (toS x)=x∧∀n,toS x=.push n→1≤n∧n≤1000:=by
 obtain ⟨k,n⟩:=x;unfold kfOpG at h;simp only at h
 by_cases hp:k=kPush
 ·subst hp;rw[if_pos rfl]at h
  have hb:¬(n<1∨1000<n):=fun e=>by rw[if_pos e]at h;cases h
  have ht:toS (kPush,n)=.push n:=by unfold toS;simp
  rw[ht];exact ⟨rfl,fun m e=>by cases e;omega⟩
 ·rw[if_neg hp]at h
  have hm:memK [kPop,kFlsh] k=true∧n=0:=by
   by_cases e:memK [kPop,kFlsh] k=true∧n=0
   ·exact e
   ·rw[if_neg e]at h;cases h
  obtain ⟨hm,rfl⟩:=hm;have:=memK_iff.1 hm;simp only[List.mem_cons,List.not_mem_nil,or_false]at this
  rcases this with rfl|rfl
  ·exact ⟨by simp[toS,sR,sK,sN,kPush,kPop],fun n e=>by simp[toS,kPush,kPop]at e⟩
  ·exact ⟨by simp[toS,sR,sK,sN,kPush,kPop,kFlsh],fun n e=>by simp[toS,kPush,kPop,kFlsh]at e⟩
theorem rowG_zero{W:ByteArray}{ks:List ByteArray}{l:List ROp}(h:rowG W ks l=none):∀x∈l,kfOpG W ks x=0:=fun x hx=>by
 unfold rowG at h;have:=List.find?_eq_none.1 h _ (List.mem_map_of_mem hx)
 simpa using this
theorem rowG_ne{W:ByteArray}{ks:List ByteArray}{l:List ROp}{c:Int}(h:rowG W ks l=some c):c≠0:=by
 unfold rowG at h;have:=List.find?_some h
 simpa using this
theorem good_rawS{ll:List (List ROp)}(h:(kfG kPush [kPop,kFlsh] ll).1=0):∃q:List (List SOp),ll=rawS q∧1≤q.length∧q.length≤6∧(∀l∈q,l.length≤20)∧∀l∈q,∀n,SOp.push n∈l→1≤n∧n≤1000:=by
 unfold kfG at h
 cases hm:manyB ll with
 |false=>rw[hm]at h;simp at h
 |true=>
  rw[hm]at h;simp only[if_true]at h;obtain ⟨h1,h6,h20⟩:=manyB_iff.1 hm
  have hall:∀l∈ll,rowG kPush [kPop,kFlsh] l=none:=by
   rcases allR_cases (rf:=rowG kPush [kPop,kFlsh]) ll 0 with ⟨_,h2⟩|⟨k,l',c,g1,g2,g3,g4⟩
   ·exact h2
   ·rw[g3]at h;exact absurd h (rowG_ne g2)
  have hx:∀l∈ll,∀x∈l,sR (toS x)=x∧∀n,toS x=.push n→1≤n∧n≤1000:=fun l hl x hx=>toS_ok (rowG_zero (hall l hl) x hx)
  have hmap:∀l∈ll,(l.map toS).map sR=l:=fun l hl=>by
   rw[List.map_map]
   conv=>rhs;rw[←List.map_id l]
   exact List.map_congr_left fun x hx'=>(hx l hl x hx').1
  refine ⟨ll.map (·.map toS),?_,by simpa using h1,by simpa using h6,fun l hl=>?_,fun l hl n hn=>?_⟩
  ·unfold rawS;rw[List.map_map]
   conv=>lhs;rw[←List.map_id ll]
   exact List.map_congr_left fun l hl=>(hmap l hl).symm
  ·obtain ⟨l',hl',rfl⟩:=List.mem_map.1 hl;rw[List.length_map];exact h20 l' hl'
  ·obtain ⟨l',hl',rfl⟩:=List.mem_map.1 hl;obtain ⟨x,hx',e⟩:=List.mem_map.1 hn;exact (hx l' hl' x hx').2 n e
variable {N0 K tn f:Nat}{big:Prop}{w w1 w2:World}{b k:Nat}{v v1 v2:Value}{l:List Instr}
theorem sopk_any(x:SOp)(HF:FreshH N0 big f (tn:Nat) 2 K)(hT:big→lowT N0)(h1:1≤f)(h4:f≤4)(htn:tn<6)(M:MkA N0 big f (tn:Nat) 2 w b v l k)(hk:k+5≤K)(hK:K≤120)(hl:l.length≤80000) :
  Calls Tryz.prog 46 #[.pointer (some ⟨b,0,none⟩),.agg #[.string (sK x),.int .i64 (sN x)]] w fun e w'=>e=.returned (.tuple #[])∧∃v',MkA N0 big f (tn:Nat) 2 w' b v' (l++sblk f tn k x) (k+sinc x)∧MkStep w b v w' v':=by
 cases x with
 |push n=>exact sop_k_push n HF hT h1 h4 htn M hk hK hl
 |pop=>exact sop_k_pop HF hT h1 h4 htn M hk hK hl
 |flush=>exact sop_k_flush HF hT h1 h4 htn M hk hK hl
end Go.Proofs.YtppihkneeolomaaGreatDoor
end
section
namespace Qc
open Qs Qu Go.Proofs.YtppihkneeolomaaGreatDoor
theorem part_len2{f j:Nat}(h4:f≤4)(hj:j<5)(k:Nat):(part f k j).length≤70:=by unfold part preC;rw[List.length_map];exact gcode_len h4 hj
end Qc
namespace Go.Proofs.YtppihkneeolomaaGreatDoor
open Go.RowKit Qs Qh Qc
variable {N0 K tn f:Nat}{big:Prop}{w w1 w2:World}{b k:Nat}{v v1 v2:Value}{l:List Instr}
end Go.Proofs.YtppihkneeolomaaGreatDoor
end
section
namespace Qk
open Qs Qg Qo Qc Qh Go.Proofs.YtppihkneeolomaaGreatDoor
open Qu (labN)
abbrev An:=Pos × Fl
variable {K:Ck}{t:Nat}{code B:List Instr}{a:List An}{q:An}{ann:Nat→An}{b:Nat}
def rngH(a b:Nat)(g:Nat→Pos):List Pos:=(List.range (b - a)).map fun i=>g (a+i)
def entH(f d:Nat):List Pos:=
 if f=1 then rngH 0 13 (.ent d)else if f=2 then rngH 0 11 (.ent d)++[.ent d 12]else if f=3 then []else
  if d=0 then rngH 0 4 (.jh 0)++rngH 0 7 (.tk 0)++rngH 0 5 .jc++rngH 0 3 (.gv 0)++[.jk 0]++rngH 0 13 (.ent 0)
  else rngH 0 3 (.jh d)++List.replicate 16 .dead++[.jk d]++rngH 0 13 (.ent d)
def leaH(f d:Nat):List Pos:=if f=2 then rngH 1 5 (.lea d)else if f=3 then []else rngH 0 5 (.lea d)
def resH(f:Nat):List Pos:=if f=3 then rngH 0 3 .rs else []
def goneH(f:Nat):List Pos:=if f=3 then rngH 0 3 .gn else []
def turnH(g:Bool):List Pos:=rngH 0 8 (.wn g)++rngH 8 21 (.wx g)++rngH 21 23 (.wn g)
def waitH(f:Nat):List Pos:=
 if f=3 then rngH 0 3 .ca++rngH 0 7 (.tk 2)++rngH 0 8 .cs++rngH 8 16 .cx++rngH 16 18 .cs++rngH 0 3 (.gv 2)++rngH 0 3 .cr
 else [.wb]++rngH 0 7 (.tk 1)++turnH false++turnH true++[.we]++rngH 0 3 (.gv 1)
def partH(f d:Nat):Nat→List Pos
 |0=>entH f d
 |1=>leaH f d
 |2=>resH f
 |3=>goneH f
 |_=>waitH f
def outH(f d:Nat):Nat→Nat
 |0=>d+1
 |1=>d - 1
 |_=>0
def lineG(f:Nat)(w:Bool)(g:Bool)(o:Nat)(B:List Instr)(a:List Pos)(i:Nat)(x:Instr):Bool:=
 (a.getD i .fin==.dead)||(decide (insOf f (a.getD i .fin)=some (x.op,x.A,x.B,x.C))&&(!(decide (14≤x.op)&&decide (x.op≤16))||match labelAt x.to B 0 with
  |some j=>decide (j<a.length)&&(a.getD j .fin==tgtOf (a.getD i .fin))
  |none=>false)&&(decide (x.op=16)||match fallOf f (a.getD i .fin)with
  |some q=>decide (i+1<a.length)&&(a.getD (i+1) .fin==q)&&genQ q
  |none=>decide (i+1=a.length)&&decide (f=3∨dOut (a.getD i .fin)=o)&&(!w||wEnd (a.getD i .fin))&&(g||a.getD i .fin != .gn 2)))
def blkG(f d j:Nat):Bool:=decide ((gcode f j).length=(partH f d j).length)&&(List.range (gcode f j).length).all fun i=>match (gcode f j)[i]? with
 |some x=>lineG f (j==4) (j==3) (outH f d j) (gcode f j) (partH f d j) i x
 |none=>true
theorem blkG_tab:((List.range 5).all fun f=>(List.range 22).all fun d=>(List.range 5).all fun j=>(f==0)||(j==1&&d==0)||(decide (2≤j)&&d != 0)||blkG f d j)=true:=by decide +kernel
theorem blkG_all(f:Nat)(hf:f<5)(d:Nat)(hd:d<22)(j:Nat)(hj:j<5)(h1:1≤f)(h2:j=1→0<d)(h3:2≤j→d=0):blkG f d j=true:=by
 have:=List.all_eq_true.1 (List.all_eq_true.1 (List.all_eq_true.1 blkG_tab f (List.mem_range.2 hf)) d (List.mem_range.2 hd)) j (List.mem_range.2 hj);simp only[Bool.or_eq_true,Bool.and_eq_true,beq_iff_eq,decide_eq_true_eq,bne_iff_ne]at this
 rcases this with ((g|g)|g)|g
 ·omega
 ·have:=h2 g.1;omega
 ·exact absurd (h3 g.1) g.2
 ·exact g
end Qk
end
section
namespace Qp
open Qs Qg Qo Qc Qh Go.Proofs.YtppihkneeolomaaGreatDoor
open Qu (labN)
open Qk (partH outH blkG blkG_all lineG)
abbrev An:=Pos × Fp
def zA:An:=(.fin,⟨false,0,0,[]⟩)
structure LineB(K:Cp)(t:Nat)(B:List Instr)(a:List An)(q:An)(i:Nat)(x:Instr):Prop where
 at_:x.op=20∨(a.getD i zA).1=.dead∨
  (insOf K.X.f (a.getD i zA).1=some (x.op,x.A,x.B,x.C)∧(14≤x.op→x.op≤16→∃j,labelAt x.to B 0=some j∧j<a.length∧a.getD j zA=(tgtOf (a.getD i zA).1,(a.getD i zA).2))∧
   (x.op≠16→NextF K.X.f (a.getD i zA).1 ((a++[q]).getD (i+1) zA).1 (a.getD i zA).2 ((a++[q]).getD (i+1) zA).2))∨
  ∃c d,(a.getD i zA).1=.cl c d∧d<100∧K.insC t (a.getD i zA).2 c (x.op,x.A,x.B,x.C)∧(x.op≠16→nextC K.X.f d (a.getD i zA).2 ((a++[q]).getD (i+1) zA).1 ((a++[q]).getD (i+1) zA).2 c)∧
   (14≤x.op→x.op≤16→∃j,labelAt x.to B 0=some j∧j<a.length∧jumpC K.X.f d (a.getD i zA).2 (a.getD j zA).1 (a.getD j zA).2 c)
variable {K:Cp}{t:Nat}{code B:List Instr}{a:List An}{q:An}{ann:Nat→An}{b:Nat}
theorem lines_of(I:InRow code b B)(hl:B.length=a.length)(ha:∀i,i≤a.length→ann (b+i)=(a++[q]).getD i zA)(h:∀(i:Nat) x,B[i]?=some x→LineB K t B a q i x)(i:Nat){x:Instr}(hx:B[i]?=some x):LineP K t code ann (b+i) x:=by
 have hm:=List.mem_of_getElem? hx
 have hlt:i<a.length:=by rw[←hl];exact (List.getElem?_eq_some_iff.1 hx).1
 have hin:∀j,j<a.length→ann (b+j)=a.getD j zA:=fun j hj=>by
  rw[ha j (by omega)];simp only[List.getD,List.getElem?_append_left hj]
 have hi:=hin i hlt;have hn:=ha (i+1) (by omega);refine ⟨I.ip x hm,?_⟩;rw[hi,show b+i+1=b+(i+1) by omega,hn]
 rcases (h i x hx).at_ with h|h|⟨h1,h2,h3⟩|⟨c,d,h1,h2,h3,h4,h5⟩
 ·exact .inl h
 ·exact .inr (.inl h)
 ·refine .inr (.inr (.inl ⟨h1,fun g1 g2=>?_,h3⟩));obtain ⟨j,j1,j2,j3⟩:=h2 g1 g2;obtain ⟨j',k1,k2⟩:=I.jmp x hm g1 g2;rw[j1]at k1;cases k1;exact ⟨b+j,k2,by rw[hin j j2];exact j3⟩
 ·refine .inr (.inr (.inr ⟨c,d,h1,h2,h3,h4,fun g1 g2=>?_⟩));obtain ⟨j,j1,j2,j3⟩:=h5 g1 g2;obtain ⟨j',k1,k2⟩:=I.jmp x hm g1 g2;rw[j1]at k1;cases k1;exact ⟨b+j,k2,by rw[hin j j2];exact j3⟩
variable {K:Cp}{t f d k:Nat}{code B:List Instr}{a:List An}{q:An}{ann:Nat→An}{b:Nat}{F:Fp}
theorem fall_ncl{f:Nat}{P q:Pos}(h:fallOf f P=some q)(c d:Nat):q≠.cl c d:=by
 rintro rfl;unfold fallOf at h
 split at h <;> cases h
theorem ncl_gen{q:Pos}(h:∀c d,q≠.cl c d):genQ q=true:=by
 cases q with
 |cl c d=>exact absurd rfl (h c d)
 |_=>rfl
structure HeadP(f d j:Nat)(F:Fp)(q:An):Prop where
 gq:genQ q.1=true∨(∃d,q.1=.cl 40 d)∧2≤q.2.g∨(∃d,q.1=.cl 30 d)∧q.2.r=true
 st:∃d',startD f q.1=some d'∧d'<100∧(f≠3→d'=outH f d j)
 gn:j=3→q.1=.fin
 r:q.2.r=true→F.r=true
 g:q.2.g≤F.g∨j=4
 s:Stat q.2 q.1 F.rest
theorem map_get(l:List Pos)(F:Fp)(i:Nat)(hi:i<l.length):(l.map fun p=>(p,F)).getD i zA=(l.getD i .fin,F):=by
 simp[List.getD,List.getElem?_map,List.getElem?_eq_getElem hi]
theorem map_app(l:List Pos)(F:Fp)(q:An)(i:Nat):((l.map fun p=>(p,F))++[q]).getD i zA=if i<l.length then (l.getD i .fin,F)else if i=l.length then q else zA:=by
 by_cases h:i<l.length
 ·rw[if_pos h,List.getD,List.getElem?_append_left (by simpa using h)];simp[List.getElem?_map,List.getElem?_eq_getElem h,List.getD]
 ·rw[if_neg h,List.getD,List.getElem?_append_right (by simpa using h)]
  by_cases e:i=l.length
  ·rw[if_pos e,e];simp
  ·rw[if_neg e]
   have:i - (l.map fun p=>((p,F):An)).length≠0:=by simp;omega
   obtain ⟨n,hn⟩:∃n,i - (l.map fun p=>((p,F):An)).length=n+1:=⟨_,(Nat.succ_pred_eq_of_ne_zero this).symm⟩;rw[hn];rfl
theorem part_lines{j:Nat}(h1:1≤f)(h4:f≤4)(hf:K.X.f=f)(hd:d<22)(hj:j<5)(hj1:j=1→0<d)(hj2:2≤j→d=0)(H:HeadP f d j F q) :
  (part f k j).length=((partH f d j).map fun p=>((p,F):An)).length∧∀(i:Nat) x,(part f k j)[i]?=some x→LineB K t (part f k j) ((partH f d j).map fun p=>((p,F):An)) q i x:=by
 have hb:=blkG_all f (by omega) d hd j hj h1 hj1 hj2;unfold blkG at hb;simp only[Bool.and_eq_true,decide_eq_true_eq,List.all_eq_true]at hb;obtain ⟨hlen,hb⟩:=hb
 have hpl:(part f k j).length=(gcode f j).length:=by unfold part preC;rw[List.length_map]
 refine ⟨by rw[hpl,hlen,List.length_map],fun i x hx=>⟨?_⟩⟩
 have hlt:i<(gcode f j).length:=by rw[←hpl];exact (List.getElem?_eq_some_iff.1 hx).1
 have hg:=hb i (List.mem_range.2 hlt);obtain ⟨x0,hx0⟩:∃x0,(gcode f j)[i]?=some x0:=⟨_,List.getElem?_eq_getElem hlt⟩;rw[hx0]at hg;simp only at hg
 have hxe:x=preI (labN (k+1)) x0:=by
  unfold part preC at hx;rw[List.getElem?_map,hx0]at hx;exact (Option.some.inj hx).symm
 have hi:i<(partH f d j).length:=by omega
 rw[map_get _ _ _ hi,map_app];unfold lineG at hg;rw[Bool.or_eq_true]at hg
 rcases hg with hg|hg
 ·exact .inr (.inl (by simpa using hg))
 ·simp only[Bool.and_eq_true,decide_eq_true_eq,Bool.or_eq_true,Bool.not_eq_true']at hg;obtain ⟨⟨g1,g2⟩,g3⟩:=hg
  have hop:x.op=x0.op∧x.A=x0.A∧x.B=x0.B∧x.C=x0.C:=by rw[hxe];exact ⟨rfl,rfl,rfl,rfl⟩
  refine .inr (.inr (.inl ⟨?_,fun a1 a2=>?_,fun a3=>?_⟩))
  ·rw[hf,hop.1,hop.2.1,hop.2.2.1,hop.2.2.2];exact g1
  ·rw[hop.1]at a1 a2
   rcases g2 with g2|g2
   ·exfalso;rw[Bool.and_eq_false_iff]at g2
    rcases g2 with g2|g2
    ·exact absurd a1 (by simpa using g2)
    ·exact absurd a2 (by simpa using g2)
   ·cases e:labelAt x0.to (gcode f j) 0 with
    |none=>rw[e]at g2;cases g2
    |some n=>
     rw[e]at g2;simp only[Bool.and_eq_true,decide_eq_true_eq,beq_iff_eq]at g2;have hall:=List.all_eq_true.1 (okJ_g f (by omega) j hj);have hm0:=List.mem_of_getElem? hx0
     have hne:x0.to≠[]:=by
      have:=hall x0 hm0;simp only[Bool.or_eq_true,Bool.not_eq_true',Bool.and_eq_false_iff,decide_eq_false_iff_not]at this
      rcases this with (h|h)|h
      ·omega
      ·omega
      ·simpa using h
     have h17:∀y∈gcode f j,y.op=17→y.to≠[]:=fun y hy g=>by
      have:=hall y hy;rw[g]at this
      simpa using this
     refine ⟨n,?_,by rw[List.length_map];exact g2.1,by rw[map_get _ _ _ g2.1,g2.2]⟩
     have:x.to=labN (k+1)++x0.to:=by rw[hxe];unfold preI;simp only;rw[if_neg (by simpa using hne)]
     rw[this];unfold part;rw[lab_pre h17 hne];exact e
  ·rw[hop.1]at a3;have g3:=g3.resolve_left a3;rw[hf]
   cases e:fallOf f ((partH f d j).getD i .fin)with
   |some q'=>
    rw[e]at g3;simp only[Bool.and_eq_true,decide_eq_true_eq,beq_iff_eq]at g3;obtain ⟨⟨k1,k2⟩,k3⟩:=g3;rw[if_pos k1];refine ⟨?_,.inl (ncl_gen fun c d2=>by simp only;rw[k2];exact fall_ncl e c d2),fun h=>h,.inl (Nat.le_refl _),stat_grace fun c d2=>by simp only;rw[k2];exact fall_ncl e c d2⟩;unfold NextOk
    rw[e];exact k2
   |none=>
    rw[e]at g3;simp only[Bool.and_eq_true,decide_eq_true_eq,Bool.or_eq_true,Bool.not_eq_true',bne_iff_ne]at g3;obtain ⟨⟨⟨k1,k2⟩,k3⟩,k4⟩:=g3;rw[if_neg (by omega),if_pos k1];refine ⟨?_,H.gq,H.r,H.g.imp id (fun hj4=>?_),H.s⟩
    ·unfold NextOk;rw[e];obtain ⟨d',s1,s2,s3⟩:=H.st;refine ⟨d',s1,s2,fun h3=>by rw[s3 h3];exact (k2.resolve_left h3).symm,fun hgn=>H.gn ?_⟩
     rcases k4 with k4|k4
     ·simpa using k4
     ·exact absurd hgn k4
    ·rcases k3 with k3|k3
     ·rw[hj4]at k3;cases k3
     ·exact k3
abbrev Seg:=List Instr × List An
inductive SegsOk (K:Cp) (t:Nat):Nat→Nat→List Seg→An→Prop where
 |nil (k:Nat) (q:An):SegsOk K t k k [] q
 |cons {k k' n:Nat} {B:List Instr} {a:List An} {r:List Seg} {q:An}:k≤k'→k'≤n→BlkF k k' B→B.length=a.length→(∀(i:Nat) x,B[i]?=some x→LineB K t B a (((r.map (·.2)).flatten++[q]).getD 0 zA) i x)→SegsOk K t k' n r q→SegsOk K t k n ((B,a) :: r) q
theorem SegsOk.le{k n:Nat}{r:List Seg}{q:An}(h:SegsOk K t k n r q):k≤n:=by
 induction h with
 |nil=>exact Nat.le_refl _
 |cons h1 h2 _ _ _ _ _=>omega
theorem SegsOk.append{k m n:Nat}{r r':List Seg}{q:An}(h:SegsOk K t k m r ((((r').map (·.2)).flatten++[q]).getD 0 zA))(h':SegsOk K t m n r' q):SegsOk K t k n (r++r') q:=by
 generalize hq:(((r').map (·.2)).flatten++[q]).getD 0 zA=q0 at h
 induction h with
 |nil=>exact h'
 |cons a1 a2 a3 a4 a5 a6 ih=>
  have:=ih h' hq;refine .cons a1 this.le a3 a4 (fun i x hx=>?_) this;have h5:=a5 i x hx
  rename_i r0 q1
  have e:(((r0++r').map (·.2)).flatten++[q]).getD 0 zA=((r0.map (·.2)).flatten++[q1]).getD 0 zA:=by
   rw[List.map_append,List.flatten_append,List.append_assoc]
   cases hfl:(r0.map (·.2)).flatten with
   |nil=>rw[List.nil_append,List.nil_append,hq];rfl
   |cons y l=>rfl
  show LineB K t _ _ ((((r0++r').map (·.2)).flatten++[q]).getD 0 zA) i x;rw[e];exact h5
theorem segs_lines:∀ {k n:Nat} {r:List Seg} {q:An},SegsOk K t k n r q→∀ {A:List Instr} {aA:List An} {R:List Instr} {aR:List An},BlkF 0 k A→A.length=aA.length→aR.getD 0 zA=q→code=A++((r.map (·.1)).flatten++R)→(ann=fun i=>(aA++((r.map (·.2)).flatten++aR)).getD i zA)→
  ∀(i:Nat) x,A.length≤i→i<A.length+(r.map (·.1)).flatten.length→code[i]?=some x→LineP K t code ann i x:=by
 intro k n r q h
 induction h with
 |nil=>intro A aA R aR _ _ _ _ _ i x h1 h2;simp at h2;omega
 | @cons k k' n B a r q a1 a2 a3 a4 a5 a6 ih=>
  intro A aA R aR hA hl hq hc ha i x h1 h2 hx;simp only[List.map_cons,List.flatten_cons]at hc ha h2;rw[List.append_assoc]at hc ha
  by_cases hi:i<A.length+B.length
  ·obtain ⟨e,rfl⟩:∃e,i=A.length+e:=⟨i - A.length,by omega⟩
   have I:InRow code A.length B:=by rw[hc];exact inRow_of hA a3
   have hxB:B[e]?=some x:=by
    rw[hc,List.getElem?_append_right (by omega),List.getElem?_append_left (by omega)]at hx;rw[show A.length+e - A.length=e by omega]at hx;exact hx
   refine lines_of I a4 (fun i' hi'=>?_) a5 e hxB;rw[ha];simp only;rw[hl,List.getD,List.getElem?_append_right (by omega),show aA.length+i' - aA.length=i' by omega]
   by_cases hi2:i'<a.length
   ·rw[List.getElem?_append_left hi2];show _=((a++[_])[i']?).getD zA;rw[List.getElem?_append_left hi2]
   ·obtain rfl:i'=a.length:=by omega
    rw[List.getElem?_append_right (Nat.le_refl _)];show _=((a++[_])[a.length]?).getD zA;rw[List.getElem?_append_right (Nat.le_refl _),Nat.sub_self];show _=((r.map (·.2)).flatten++[q]).getD 0 zA
    cases hfl:(r.map (·.2)).flatten with
    |nil=>rw[List.nil_append,List.nil_append];exact hq
    |cons y l=>rfl
  ·have hle:=a6.le
   refine ih (A:=A++B) (aA:=aA++a) (R:=R) (aR:=aR) (hA.append a3 (by omega) (by omega)) (by rw[List.length_append,List.length_append,hl,a4]) hq (by rw[hc];simp only[List.append_assoc]) (by rw[ha];simp only[List.append_assoc]) i x (by rw[List.length_append];omega) (by rw[List.length_append]at h2 ⊢;omega) hx
end Qp
end
section
namespace Qp
open Qs Qg Qo Qc Qh Go.Proofs.YtppihkneeolomaaGreatDoor
open Qu (labN)
open Qk (partH outH)
variable {K:Cp}{t f d k:Nat}{code B:List Instr}{a:List An}{q:An}{ann:Nat→An}{b:Nat}{F:Fp}{p e:List UInt8}{n:Int}{rest:List Int}
def fA(rest:List Int):Fp:=⟨false,0,0,rest⟩
def fT(rest:List Int):Fp:=⟨true,0,0,rest⟩
def fW(rest:List Int):Fp:=⟨false,2,0,rest⟩
def fN(g:Nat)(n:Int)(rest:List Int):Fp:=⟨false,g,n,rest⟩
def pf(F:Fp)(l:List Pos):List An:=l.map fun p=>(p,F)
def pushA(n:Int)(rest:List Int):List An:=(.cl 60 0,fN 0 n rest) :: (pf (fN 1 n rest) [.cl 61 0,.cl 62 0,.cl 63 0,.cl 64 0,.cl 65 0,.cl 66 0,.cl 67 0,.cl 68 0,.cl 69 0,.cl 70 0,.cl 71 0]++pf (fN 0 n rest) [.cl 72 0,.cl 73 0])
def popA(rest:List Int):List An:=pf (fA rest) [.cl 80 1,.cl 81 1,.cl 82 1,.cl 83 1,.cl 84 1,.cl 85 1,.cl 86 1,.cl 87 1,.cl 88 1,.cl 89 1,.cl 90 1,.cl 91 1,.cl 92 1,.cl 93 1]
def laterA(rest:List Int):List An:=pf (fT rest) [.cl 30 0,.cl 31 0,.cl 32 0,.cl 33 0,.cl 34 0]++pf (fA rest) [.cl 35 0,.cl 36 0]
def flushA(rest:List Int):List An:=pf (fW rest) [.cl 40 0,.cl 41 0,.cl 42 0,.cl 43 0,.cl 44 0,.cl 45 0,.cl 46 0,.cl 47 0,.cl 48 0]
theorem beg_in{f0 d c:Nat}{F:Fp}(hg:genQ (.cl c d)=true)(hd:d<100)(hs:Stat F (.cl c d) F.rest):Beg2 f0 d (.cl c d) F F:=⟨hg,⟨d,rfl,hd,fun _=>rfl⟩,id,Nat.le_refl _,hs⟩
theorem l_push(h1:p++[46,97]≠e)(h2:p++[46,98]≠e)(H:Beg2 K.X.f 0 q.1 (fN 0 n rest) q.2):∀(i:Nat) x,(pushBlk e p n)[i]?=some x→LineB K t (pushBlk e p n) (pushA n rest) q i x:=fun i x hx=>by
 match i,hx with
 |0,hx=>cases hx;exact ⟨.inr (.inr (.inr ⟨60,0,rfl,by decide,rfl,fun _=>⟨rfl,⟨rfl,rfl⟩,rfl⟩,fun a b=>by simp at a b⟩))⟩
 |1,hx=>cases hx;exact ⟨.inr (.inr (.inr ⟨61,0,rfl,by decide,rfl,fun _=>⟨rfl,⟨rfl,rfl⟩,⟨Nat.le_refl _,Nat.le_refl _⟩⟩,fun _ _=>⟨13,by simp[pushBlk,pushCode,labelAt,h1,h2,h1.symm,h2.symm],by simp[pushA,popA,laterA,flushA,pf],rfl,⟨rfl,rfl⟩,rfl,rfl⟩⟩))⟩
 |2,hx=>cases hx;exact ⟨.inr (.inr (.inr ⟨62,0,rfl,by decide,rfl,fun _=>⟨rfl,⟨rfl,rfl⟩,⟨Nat.le_refl _,Nat.le_refl _⟩⟩,fun a b=>by simp at a b⟩))⟩
 |3,hx=>cases hx;exact ⟨.inr (.inr (.inr ⟨63,0,rfl,by decide,rfl,fun _=>⟨rfl,⟨rfl,rfl⟩,⟨Nat.le_refl _,Nat.le_refl _⟩⟩,fun a b=>by simp at a b⟩))⟩
 |4,hx=>cases hx;exact ⟨.inr (.inr (.inr ⟨64,0,rfl,by decide,rfl,fun _=>⟨rfl,⟨rfl,rfl⟩,⟨Nat.le_refl _,Nat.le_refl _⟩⟩,fun a b=>by simp at a b⟩))⟩
 |5,hx=>cases hx;exact ⟨.inr (.inr (.inr ⟨65,0,rfl,by decide,rfl,fun _=>⟨rfl,⟨rfl,rfl⟩,⟨Nat.le_refl _,Nat.le_refl _⟩⟩,fun a b=>by simp at a b⟩))⟩
 |6,hx=>cases hx;exact ⟨.inr (.inr (.inr ⟨66,0,rfl,by decide,rfl,fun _=>⟨rfl,⟨rfl,rfl⟩,⟨Nat.le_refl _,Nat.le_refl _⟩⟩,fun a b=>by simp at a b⟩))⟩
 |7,hx=>cases hx;exact ⟨.inr (.inr (.inr ⟨67,0,rfl,by decide,rfl,fun _=>⟨rfl,⟨rfl,rfl⟩,⟨Nat.le_refl _,Nat.le_refl _⟩⟩,fun a b=>by simp at a b⟩))⟩
 |8,hx=>cases hx;exact ⟨.inr (.inr (.inr ⟨68,0,rfl,by decide,rfl,fun _=>⟨rfl,⟨rfl,rfl⟩,⟨Nat.le_refl _,Nat.le_refl _⟩⟩,fun a b=>by simp at a b⟩))⟩
 |9,hx=>cases hx;exact ⟨.inr (.inr (.inr ⟨69,0,rfl,by decide,rfl,fun _=>⟨rfl,⟨rfl,rfl⟩,⟨Nat.le_refl _,Nat.le_refl _⟩,Nat.le_refl _⟩,fun a b=>by simp at a b⟩))⟩
 |10,hx=>cases hx;exact ⟨.inr (.inr (.inr ⟨70,0,rfl,by decide,rfl,fun _=>⟨rfl,⟨rfl,rfl⟩,⟨Nat.le_refl _,Nat.le_refl _⟩⟩,fun _ _=>⟨12,by simp[pushBlk,pushCode,labelAt,h1,h2,h1.symm,h2.symm],by simp[pushA,popA,laterA,flushA,pf],rfl,⟨rfl,rfl⟩,rfl,rfl⟩⟩))⟩
 |11,hx=>cases hx;exact ⟨.inr (.inr (.inr ⟨71,0,rfl,by decide,rfl,fun h=>absurd rfl h,fun _ _=>⟨4,by simp[pushBlk,pushCode,labelAt,h1,h2,h1.symm,h2.symm],by simp[pushA,popA,laterA,flushA,pf],rfl,⟨rfl,rfl⟩,⟨Nat.le_refl _,Nat.le_refl _⟩⟩⟩))⟩
 |12,hx=>cases hx;exact ⟨.inr (.inr (.inr ⟨72,0,rfl,by decide,rfl,fun _=>beg_in rfl (by decide) ⟨rfl,fun _=>rfl⟩,fun a b=>by simp at a b⟩))⟩
 |13,hx=>cases hx;exact ⟨.inr (.inr (.inr ⟨73,0,rfl,by decide,rfl,fun _=>H,fun a b=>by simp at a b⟩))⟩
 |i+14,hx=>simp[pushBlk,pushCode,popBlk,popCode,laterBlk,flushTail]at hx
theorem l_pop(h1:p++[46,97]≠e)(h2:p++[46,98]≠e)(H:(genQ q.1=true∨∃d2,q.1=.cl 30 d2)∧(∃d',startD K.X.f q.1=some d'∧d'<100∧(K.X.f≠3→d'=1))∧q.2.g≤0∧Stat q.2 q.1 rest):∀(i:Nat) x,(popBlk p e)[i]?=some x→LineB K t (popBlk p e) (popA rest) q i x:=fun i x hx=>by
 match i,hx with
 |0,hx=>cases hx;exact ⟨.inr (.inr (.inr ⟨80,1,rfl,by decide,rfl,fun _=>beg_in rfl (by decide) ⟨rfl,fun _=>rfl⟩,fun a b=>by simp at a b⟩))⟩
 |1,hx=>cases hx;exact ⟨.inr (.inr (.inr ⟨81,1,rfl,by decide,rfl,fun _=>⟨rfl,⟨rfl,rfl⟩,rfl,rfl,Nat.zero_lt_one⟩,fun a b=>by simp at a b⟩))⟩
 |2,hx=>cases hx;exact ⟨.inr (.inr (.inr ⟨82,1,rfl,by decide,rfl,fun _=>⟨rfl,⟨rfl,rfl⟩,rfl,Nat.zero_lt_one⟩,fun _ _=>⟨8,by simp[popBlk,popCode,labelAt,h1,h2,h1.symm,h2.symm],by simp[pushA,popA,laterA,flushA,pf],rfl,⟨rfl,rfl⟩,rfl⟩⟩))⟩
 |3,hx=>cases hx;exact ⟨.inr (.inr (.inr ⟨83,1,rfl,by decide,rfl,fun _=>⟨rfl,⟨rfl,rfl⟩,rfl,Nat.zero_lt_one⟩,fun a b=>by simp at a b⟩))⟩
 |4,hx=>cases hx;exact ⟨.inr (.inr (.inr ⟨84,1,rfl,by decide,rfl,fun _=>⟨rfl,⟨rfl,rfl⟩,rfl,Nat.zero_lt_one⟩,fun a b=>by simp at a b⟩))⟩
 |5,hx=>cases hx;exact ⟨.inr (.inr (.inr ⟨85,1,rfl,by decide,rfl,fun _=>⟨rfl,⟨rfl,rfl⟩,rfl⟩,fun a b=>by simp at a b⟩))⟩
 |6,hx=>cases hx;exact ⟨.inr (.inr (.inr ⟨86,1,rfl,by decide,rfl,fun _=>⟨rfl,⟨rfl,rfl⟩,rfl,rfl⟩,fun _ _=>⟨8,by simp[popBlk,popCode,labelAt,h1,h2,h1.symm,h2.symm],by simp[pushA,popA,laterA,flushA,pf],rfl,⟨rfl,rfl⟩,rfl⟩⟩))⟩
 |7,hx=>cases hx;exact ⟨.inr (.inr (.inr ⟨87,1,rfl,by decide,rfl,fun h=>absurd rfl h,fun _ _=>⟨0,by simp[popBlk,popCode,labelAt,h1,h2,h1.symm,h2.symm],by simp[pushA,popA,laterA,flushA,pf],beg_in rfl (by decide) ⟨rfl,fun _=>rfl⟩⟩⟩))⟩
 |8,hx=>cases hx;exact ⟨.inr (.inr (.inr ⟨88,1,rfl,by decide,rfl,fun _=>⟨rfl,⟨rfl,rfl⟩,rfl⟩,fun a b=>by simp at a b⟩))⟩
 |9,hx=>cases hx;exact ⟨.inr (.inr (.inr ⟨89,1,rfl,by decide,rfl,fun _=>⟨rfl,⟨rfl,rfl⟩,rfl⟩,fun a b=>by simp at a b⟩))⟩
 |10,hx=>cases hx;exact ⟨.inr (.inr (.inr ⟨90,1,rfl,by decide,rfl,fun _=>⟨rfl,⟨rfl,rfl⟩,rfl⟩,fun _ _=>⟨13,by simp[popBlk,popCode,labelAt,h1,h2,h1.symm,h2.symm],by simp[pushA,popA,laterA,flushA,pf],rfl,⟨rfl,rfl⟩,rfl⟩⟩))⟩
 |11,hx=>cases hx;exact ⟨.inr (.inr (.inr ⟨91,1,rfl,by decide,rfl,fun _=>⟨rfl,⟨rfl,rfl⟩,rfl⟩,fun a b=>by simp at a b⟩))⟩
 |12,hx=>cases hx;exact ⟨.inr (.inr (.inr ⟨92,1,rfl,by decide,rfl,fun _=>⟨rfl,⟨rfl,rfl⟩,rfl⟩,fun a b=>by simp at a b⟩))⟩
 |13,hx=>cases hx;exact ⟨.inr (.inr (.inr ⟨93,1,rfl,by decide,rfl,fun _=>H,fun a b=>by simp at a b⟩))⟩
 |i+14,hx=>simp[pushBlk,pushCode,popBlk,popCode,laterBlk,flushTail]at hx
theorem l_later(hlw:K.lw t=t % 4)(hnx:K.nx=2)(H:Beg2 K.X.f 0 q.1 (fA rest) q.2):∀(i:Nat) x,(laterBlk p t 2)[i]?=some x→LineB K t (laterBlk p t 2) (laterA rest) q i x:=fun i x hx=>by
 match i,hx with
 |0,hx=>cases hx;exact ⟨.inr (.inr (.inr ⟨30,0,rfl,by decide,rfl,fun _=>⟨rfl,⟨rfl,rfl⟩,Nat.le_refl _⟩,fun _ _=>⟨6,by simp[laterBlk,labelAt],by simp[pushA,popA,laterA,flushA,pf],rfl,⟨rfl,rfl⟩,Nat.le_refl _⟩⟩))⟩
 |1,hx=>cases hx;exact ⟨.inr (.inr (.inr ⟨31,0,rfl,by decide,rfl,fun _=>⟨rfl,⟨rfl,rfl⟩,Nat.le_refl _⟩,fun a b=>by simp at a b⟩))⟩
 |2,hx=>cases hx;exact ⟨.inr (.inr (.inr ⟨32,0,rfl,by decide,by rw[←hlw];exact rfl,fun _=>⟨rfl,⟨rfl,rfl⟩,Nat.le_refl _⟩,fun a b=>by simp at a b⟩))⟩
 |3,hx=>cases hx;exact ⟨.inr (.inr (.inr ⟨33,0,rfl,by decide,by show _=(7,3,0,(K.nx:Int));rw[hnx];rfl,fun _=>⟨rfl,⟨rfl,rfl⟩,Nat.le_refl _⟩,fun a b=>by simp at a b⟩))⟩
 |4,hx=>cases hx;exact ⟨.inr (.inr (.inr ⟨34,0,rfl,by decide,by rw[←hlw];exact rfl,fun _=>⟨rfl,⟨rfl,rfl⟩,rfl⟩,fun a b=>by simp at a b⟩))⟩
 |5,hx=>cases hx;exact ⟨.inr (.inr (.inr ⟨35,0,rfl,by decide,rfl,fun _=>⟨rfl,⟨rfl,rfl⟩,Nat.le_refl _⟩,fun a b=>by simp at a b⟩))⟩
 |6,hx=>cases hx;exact ⟨.inr (.inr (.inr ⟨36,0,rfl,by decide,rfl,fun _=>H,fun a b=>by simp at a b⟩))⟩
 |i+7,hx=>simp[pushBlk,pushCode,popBlk,popCode,laterBlk,flushTail]at hx
theorem l_flush(hpe:p≠e)(hlw:K.lw t=t % 4)(hnx:K.nx=2)(H:Beg2 K.X.f 0 q.1 (fW rest) q.2):∀(i:Nat) x,(flushTail p e t 2)[i]?=some x→LineB K t (flushTail p e t 2) (flushA rest) q i x:=fun i x hx=>by
 match i,hx with
 |0,hx=>cases hx;exact ⟨.inr (.inr (.inr ⟨40,0,rfl,by decide,rfl,fun _=>⟨rfl,⟨rfl,rfl⟩,Nat.le_refl _,Nat.le_refl _⟩,fun a b=>by simp at a b⟩))⟩
 |1,hx=>cases hx;exact ⟨.inr (.inr (.inr ⟨41,0,rfl,by decide,rfl,fun _=>⟨rfl,⟨rfl,rfl⟩,Nat.le_refl _,Nat.le_refl _⟩,fun a b=>by simp at a b⟩))⟩
 |2,hx=>cases hx;exact ⟨.inr (.inr (.inr ⟨42,0,rfl,by decide,by rw[←hlw];exact rfl,fun _=>⟨rfl,⟨rfl,rfl⟩,Nat.le_refl _,Nat.le_refl _⟩,fun a b=>by simp at a b⟩))⟩
 |3,hx=>cases hx;exact ⟨.inr (.inr (.inr ⟨43,0,rfl,by decide,rfl,fun _=>⟨rfl,⟨rfl,rfl⟩,Nat.le_refl _,Nat.le_refl _⟩,fun _ _=>⟨8,by simp[flushTail,labelAt,hpe],by simp[pushA,popA,laterA,flushA,pf],rfl,⟨rfl,rfl⟩,Nat.le_refl _,rfl⟩⟩))⟩
 |4,hx=>cases hx;exact ⟨.inr (.inr (.inr ⟨44,0,rfl,by decide,by show _=(6,1,0,(K.nx:Int));rw[hnx];rfl,fun _=>⟨rfl,⟨rfl,rfl⟩,Nat.le_refl _,Nat.le_refl _⟩,fun a b=>by simp at a b⟩))⟩
 |5,hx=>cases hx;exact ⟨.inr (.inr (.inr ⟨45,0,rfl,by decide,by rw[←hlw];exact rfl,fun _=>⟨rfl,⟨rfl,rfl⟩,Nat.le_refl _,Nat.le_refl _⟩,fun a b=>by simp at a b⟩))⟩
 |6,hx=>cases hx;exact ⟨.inr (.inr (.inr ⟨46,0,rfl,by decide,rfl,fun _=>⟨rfl,⟨rfl,rfl⟩,Nat.le_refl _,Nat.le_refl _⟩,fun a b=>by simp at a b⟩))⟩
 |7,hx=>cases hx;exact ⟨.inr (.inr (.inr ⟨47,0,rfl,by decide,rfl,fun h=>absurd rfl h,fun _ _=>⟨1,by simp[flushTail,labelAt],by simp[pushA,popA,laterA,flushA,pf],rfl,⟨rfl,rfl⟩,Nat.le_refl _,Nat.le_refl _⟩⟩))⟩
 |8,hx=>cases hx;exact ⟨.inr (.inr (.inr ⟨48,0,rfl,by decide,rfl,fun _=>H,fun a b=>by simp at a b⟩))⟩
 |i+9,hx=>simp[pushBlk,pushCode,popBlk,popCode,laterBlk,flushTail]at hx
def psh:SOp→List Int
 |.push n=>[n]
 |_=>[]
def pshs(l:List SOp):List Int:=l.flatMap psh
def segOp(f t k:Nat)(rest:List Int):SOp→List Seg
 |.push n=>[(pushBlk (labN (k+1)) (labN (k+2)) n,pushA n rest)]
 |.pop=>[(part f k 0,pf (fA rest) (partH f 0 0)),(popBlk (labN (k+2)) (labN (k+3)),popA rest),(part f (k+3) 1,pf (fT rest) (partH f 1 1)),(laterBlk (labN (k+5)) t 2,laterA rest)]
 |.flush=>[(part f k 4,pf (fA rest) (partH f 0 4)),(flushTail (labN (k+2)) (labN (k+3)) t 2,flushA rest)]
def segOps(f t:Nat):Nat→List SOp→List Seg
 |_,[]=>[]
 |k,x :: l=>segOp f t k (pshs l) x++segOps f t (k+sinc x) l
theorem segOp_code(f t k:Nat)(rest:List Int)(x:SOp):((segOp f t k rest x).map (·.1)).flatten=sblk f t k x:=by
 cases x <;> simp[segOp,sblk,flushBlk]
theorem segOps_code(f t:Nat):∀(l:List SOp) (k:Nat),((segOps f t k l).map (·.1)).flatten=sopsCode f t k l
 |[],k=>rfl
 |x :: l,k=>by
  simp only[segOps,List.map_append,List.flatten_append,sopsCode];rw[segOp_code,segOps_code f t l]
structure HeadOk(f:Nat)(l:List Int)(q:An):Prop where
 gq:genQ q.1=true
 st:∃d',startD f q.1=some d'∧d'<100∧(f≠3→d'=0)
 r:q.2.r=false
 g:q.2.g=0
 s:Stat q.2 q.1 l
theorem HeadOk.beg(H:HeadOk f rest q)(hr:F.rest=rest):Beg2 f 0 q.1 F q.2:=
 ⟨H.gq,H.st,fun h=>(by rw[H.r]at h;cases h),by rw[H.g];exact Nat.zero_le _,by rw[hr];exact H.s⟩
theorem fc(h1:1≤f)(h4:f≤4):f=1∨f=2∨f=3∨f=4:=by omega
theorem one_seg{k':Nat}(h:k≤k')(hB:BlkF k k' B)(hl:B.length=a.length)(hL:∀(i:Nat) x,B[i]?=some x→LineB K t B a q i x):SegsOk K t k k' [(B,a)] q:=
 .cons h (Nat.le_refl _) hB hl hL (.nil _ _)
theorem lab_ne2{i j:Nat}:labN i++[46,97]≠labN j∧labN i++[46,98]≠labN j:=⟨Qu.labN_lab.ne i j 97,Qu.labN_lab.ne i j 98⟩
theorem op_ok(h1:1≤f)(h4:f≤4)(hf:K.X.f=f)(hnx:K.nx=2)(hlw:K.lw t=t % 4)(ht:t<8)(x:SOp)(hV:∀n,x=.push n→1≤n∧n≤1000)(hk:k+5<128)(hq:HeadOk f rest q) :
  SegsOk K t k (k+sinc x) (segOp f t k rest x) q∧HeadOk f (psh x++rest) ((((segOp f t k rest x).map (·.2)).flatten++[q]).getD 0 zA):=by
 cases x with
 |push n=>
  exact ⟨one_seg (by omega) (pushBlk_fine n (hV n rfl) k (by omega)) rfl (l_push lab_ne2.1 lab_ne2.2 (by rw[hf];exact hq.beg rfl)),rfl,⟨0,rfl,by decide,fun _=>rfl⟩,rfl,rfl,⟨rfl,fun _=>rfl⟩⟩
 |pop=>
  obtain ⟨p1,p2⟩:=part_lines (K:=K) (t:=t) (k:=k) (F:=fA rest) (q:=(.cl 80 1,fA rest)) (d:=0) (j:=0) h1 h4 hf (by decide) (by decide) (fun h=>by cases h) (fun h=>by omega) ⟨.inl rfl,⟨1,rfl,by decide,fun _=>rfl⟩,fun h=>(by cases h),fun h=>h,.inl (Nat.le_refl _),⟨rfl,fun _=>rfl⟩⟩
  obtain ⟨l1,l2⟩:=part_lines (K:=K) (t:=t) (k:=k+3) (F:=fT rest) (q:=(.cl 30 0,fT rest)) (d:=1) (j:=1) h1 h4 hf (by decide) (by decide) (fun h=>by decide) (fun h=>by omega) ⟨.inr (.inr ⟨⟨0,rfl⟩,rfl⟩),⟨0,rfl,by decide,fun _=>rfl⟩,fun h=>(by cases h),fun h=>h,.inl (Nat.le_refl _),⟨rfl,fun _=>rfl⟩⟩
  refine ⟨.cons (k':=k+1) (by omega) (by show k+1≤k+5;omega) (part_fine h1 h4 (by decide) k (by omega)) p1 p2 (.cons (k':=k+3) (by omega) (by show k+3≤k+5;omega) (popBlk_fine (k+1) (by omega)) rfl (l_pop lab_ne2.1 lab_ne2.2 ?_) (.cons (k':=k+4) (by omega) (by show k+4≤k+5;omega) (part_fine h1 h4 (by decide) (k+3) (by omega)) l1 l2 (one_seg (k':=k+5) (by omega) (later_fine t 2 ht (by omega) (k+4) (by omega)) rfl (l_later hlw hnx (by rw[hf];exact hq.beg rfl))))),?_⟩
  ·rw[hf]
   show (genQ (((pf (fT rest) (partH f 1 1)++(laterA rest++[]))++[q]).getD 0 zA).1=true∨∃d2,(((pf (fT rest) (partH f 1 1)++(laterA rest++[]))++[q]).getD 0 zA).1=.cl 30 d2)∧(∃d',startD f (((pf (fT rest) (partH f 1 1)++(laterA rest++[]))++[q]).getD 0 zA).1=some d'∧d'<100∧(f≠3→d'=1))∧(((pf (fT rest) (partH f 1 1)++(laterA rest++[]))++[q]).getD 0 zA).2.g≤0∧Stat (((pf (fT rest) (partH f 1 1)++(laterA rest++[]))++[q]).getD 0 zA).2 (((pf (fT rest) (partH f 1 1)++(laterA rest++[]))++[q]).getD 0 zA).1 rest
   rcases fc h1 h4 with rfl|rfl|rfl|rfl
   ·exact ⟨.inl rfl,⟨1,rfl,by decide,fun _=>rfl⟩,Nat.le_refl _,rfl,fun _=>rfl⟩
   ·exact ⟨.inl rfl,⟨1,rfl,by decide,fun _=>rfl⟩,Nat.le_refl _,rfl,fun _=>rfl⟩
   ·exact ⟨.inr ⟨0,rfl⟩,⟨0,rfl,by decide,fun h=>absurd rfl h⟩,Nat.le_refl _,rfl,fun _=>rfl⟩
   ·exact ⟨.inl rfl,⟨1,rfl,by decide,fun _=>rfl⟩,Nat.le_refl _,rfl,fun _=>rfl⟩
  ·rcases fc h1 h4 with rfl|rfl|rfl|rfl
   ·exact ⟨rfl,⟨0,rfl,by decide,fun _=>rfl⟩,rfl,rfl,rfl,fun _=>rfl⟩
   ·exact ⟨rfl,⟨0,rfl,by decide,fun _=>rfl⟩,rfl,rfl,rfl,fun _=>rfl⟩
   ·exact ⟨rfl,⟨1,rfl,by decide,fun h=>absurd rfl h⟩,rfl,rfl,rfl,fun _=>rfl⟩
   ·exact ⟨rfl,⟨0,rfl,by decide,fun _=>rfl⟩,rfl,rfl,rfl,fun _=>rfl⟩
 |flush=>
  obtain ⟨p1,p2⟩:=part_lines (K:=K) (t:=t) (k:=k) (F:=fA rest) (q:=(.cl 40 0,fW rest)) (d:=0) (j:=4) h1 h4 hf (by decide) (by decide) (fun h=>by cases h) (fun _=>rfl) ⟨.inr (.inl ⟨⟨0,rfl⟩,Nat.le_refl 2⟩),⟨0,rfl,by decide,fun _=>rfl⟩,fun h=>(by cases h),fun h=>h,.inr rfl,⟨rfl,fun _=>rfl⟩⟩
  have hne:labN (k+2)≠labN (k+3):=fun h=>by have:=Qu.labN_lab.1 _ _ h;omega
  refine ⟨.cons (k':=k+1) (by omega) (by show k+1≤k+3;omega) (part_fine h1 h4 (by decide) k (by omega)) p1 p2 (one_seg (k':=k+3) (by omega) (flush_fine t 2 ht (by omega) (k+1) (by omega)) rfl (l_flush hne hlw hnx (by rw[hf];exact hq.beg rfl))),?_⟩
  rcases fc h1 h4 with rfl|rfl|rfl|rfl
  all_goals exact ⟨rfl,⟨0,rfl,by decide,fun _=>rfl⟩,rfl,rfl,rfl,fun _=>rfl⟩
theorem ops_ok(h1:1≤f)(h4:f≤4)(hf:K.X.f=f)(hnx:K.nx=2)(hlw:K.lw t=t % 4)(ht:t<8):∀(l:List SOp) (k:Nat),(∀n,SOp.push n∈l→1≤n∧n≤1000)→k+slabs l+5<128→HeadOk f [] q→
  SegsOk K t k (k+slabs l) (segOps f t k l) q∧HeadOk f (pshs l) ((((segOps f t k l).map (·.2)).flatten++[q]).getD 0 zA)
 |[],k,_,_,hq=>⟨.nil _ _,hq⟩
 |x :: l,k,hV,hk,hq=>by
  simp only[slabs]at hk;obtain ⟨i1,i2⟩:=ops_ok h1 h4 hf hnx hlw ht l (k+sinc x) (fun n hn=>hV n (List.mem_cons_of_mem _ hn)) (by omega) hq;obtain ⟨j1,j2⟩:=op_ok (k:=k) h1 h4 hf hnx hlw ht x (fun n e=>hV n (by rw[e];simp)) (by omega) i2;refine ⟨?_,?_⟩
  ·have:=j1.append (n:=k+sinc x+slabs l) (r':=segOps f t (k+sinc x) l) i1;rw[show k+slabs (x :: l)=k+sinc x+slabs l by simp only[slabs];omega];exact this
  ·show HeadOk f (psh x++pshs l) ((((segOp f t k (pshs l) x++segOps f t (k+sinc x) l).map (·.2)).flatten++[q]).getD 0 zA);rw[List.map_append,List.flatten_append,List.append_assoc]
   cases hfl:((segOp f t k (pshs l) x).map (·.2)).flatten with
   |nil=>rw[hfl]at j2;rw[List.nil_append];exact j2
   |cons y r=>rw[hfl]at j2;exact j2
def segAll(f t:Nat)(ops:List SOp):List Seg:=segOps f t 0 ops++[(part f (slabs ops) 3,pf (fA []) (partH f 0 3)),([⟨20,0,0,0,[]⟩],[(.fin,fA [])])]
def annP(f t:Nat)(ops:List SOp)(i:Nat):An:=(((segAll f t ops).map (·.2)).flatten++[zA]).getD i zA
theorem segAll_code(f t:Nat)(ops:List SOp):((segAll f t ops).map (·.1)).flatten=scode f t ops:=by
 unfold segAll scode;rw[List.map_append,List.flatten_append,segOps_code];simp
theorem all_lines(h1:1≤f)(h4:f≤4)(hf:K.X.f=f)(hnx:K.nx=2)(hlw:K.lw t=t % 4)(ht:t<8)(l:List SOp)(hV:∀n,SOp.push n∈l→1≤n∧n≤1000)(h20:l.length≤20) :
  (∀i x,(scode f t l)[i]?=some x→LineP K t (scode f t l) (annP f t l) i x)∧HeadOk f (pshs l) (annP f t l 0):=by
 have hlab:=slabs_le l
 have hstop:SegsOk K t (slabs l+1) (slabs l+1) [([⟨20,0,0,0,[]⟩],[((.fin,fA []):An)])] zA:=
  one_seg (Nat.le_refl _) (stop_fine _) rfl (fun i x hx=>by
   match i,hx with
   |0,hx=>cases hx;exact ⟨.inl rfl⟩
   |i+1,hx=>simp at hx)
 have hfin:HeadP f 0 3 (fA []) (.fin,fA []):=⟨.inl rfl,⟨0,rfl,by decide,fun _=>rfl⟩,fun _=>rfl,fun h=>h,.inl (Nat.le_refl _),⟨rfl,fun _=>rfl⟩⟩
 obtain ⟨p1,p2⟩:=part_lines (K:=K) (t:=t) (k:=slabs l) (F:=fA []) (q:=(.fin,fA [])) (d:=0) (j:=3) h1 h4 hf (by decide) (by decide) (fun h=>by cases h) (fun _=>rfl) hfin
 have htail:SegsOk K t (slabs l) (slabs l+1) [(part f (slabs l) 3,pf (fA []) (partH f 0 3)),([⟨20,0,0,0,[]⟩],[((.fin,fA []):An)])] zA:=
  .cons (by omega) (Nat.le_refl _) (part_fine h1 h4 (by decide) _ (by omega)) p1 p2 hstop
 have hhead:HeadOk f [] (((([(part f (slabs l) 3,pf (fA []) (partH f 0 3)),([⟨20,0,0,0,[]⟩],[((.fin,fA []):An)])]:List Seg).map (·.2)).flatten++[zA]).getD 0 zA):=by
  rcases fc h1 h4 with rfl|rfl|rfl|rfl
  all_goals exact ⟨rfl,⟨0,rfl,by decide,fun _=>rfl⟩,rfl,rfl,rfl,fun _=>rfl⟩
 obtain ⟨o1,o2⟩:=ops_ok (K:=K) (t:=t) h1 h4 hf hnx hlw ht l 0 hV (by omega) hhead;rw[Nat.zero_add]at o1
 have hall:SegsOk K t 0 (slabs l+1) (segAll f t l) zA:=by
  unfold segAll;exact o1.append htail
 refine ⟨fun i x hx=>?_,?_⟩
 ·have hlt:=(List.getElem?_eq_some_iff.1 hx).1;exact segs_lines hall (code:=scode f t l) (ann:=annP f t l) (A:=[]) (aA:=[]) (R:=[]) (aR:=[zA]) (BlkF.nil 0) rfl rfl (by rw[segAll_code];simp) (by funext i;unfold annP;rw[List.nil_append]) i x (Nat.zero_le _) (by rw[segAll_code];simpa using hlt) hx
 ·unfold annP segAll;rw[List.map_append,List.flatten_append,List.append_assoc]
  cases hfl:((segOps f t 0 l).map (·.2)).flatten with
  |nil=>rw[hfl]at o2;rw[List.nil_append];exact o2
  |cons y r=>rw[hfl]at o2;exact o2
end Qp
end
section
namespace Qk
open Qs Qg Qo Qc Qh Go.Proofs.YtppihkneeolomaaGreatDoor
open Qu (labN)
variable {f n:Nat}{q:List (List COp)}
def cX(f n:Nat)(h1:1≤f)(h4:f≤4)(h6:n≤6):Cx:=
 ⟨f,n,(n:Int)+1,fun t=>if t<n then (t:Int)+1 else (t:Int)+100,fun t=>by split <;> omega,fun t u h=>by revert h;split <;> split <;> omega,h1,h4⟩
theorem cX_gr{h1:1≤f}{h4:f≤4}{h6:n≤6}{x:Int}:(cX f n h1 h4 h6).gr x↔1≤x∧x≤(n:Int)+1:=by
 constructor
 ·rintro (h|⟨t,ht,h⟩)
  ·have h:x=(n:Int)+1:=h;omega
  ·have ht:t<n:=ht
   have h:x=if t<n then (t:Int)+1 else (t:Int)+100:=h
   rw[if_pos ht]at h;omega
 ·intro h
  by_cases e:x=(n:Int)+1
  ·exact .inl e
  ·refine .inr ⟨(x - 1).toNat,by show (x - 1).toNat<n;omega,?_⟩
   show x=if (x - 1).toNat<n then ((x - 1).toNat:Int)+1 else _
   rw[if_pos (by omega)];omega
variable {h1:1≤f}{h4:f≤4}{h6:q.length≤6}
end Qk
end
section
namespace Qc
open Qs Qu Go.Proofs.YtppihkneeolomaaGreatDoor
def gRegS(n t:Nat):List Int:=[0,0,0,0,0,(n:Int)+4,(t:Int)+1,(n:Int)+1]
def sInit(f n:Nat):List (List Int):=rowsF (gOwnC f) n++[gHubC f n]++[[]]++[[]]++[[0,(n:Int)+2,(n:Int)+3]]
def sRegs(n:Nat):List (List Int):=rowsF (gRegS n) n
def sCs(f:Nat)(q:List (List SOp))(t:Nat):List Instr:=scode f t (q.getD t [])
def sCodes(f:Nat)(q:List (List SOp)):List (List Instr):=(List.range q.length).map (sCs f q)
theorem gRegS_step(n t:Nat):(gReg2 n t).set 5 ((n:Int)+4)=gRegS n t:=rfl
theorem sInit_len(f n:Nat):(sInit f n).length=n+4:=by simp[sInit,rowsF_len]
theorem sInit_all(f n:Nat):∀l∈sInit f n,l.length≤4:=fun l hl=>by
 simp only[sInit,List.mem_append,List.mem_singleton]at hl
 rcases hl with (((h|h)|h)|h)|h
 ·obtain ⟨i,-,rfl⟩:=List.mem_map.1 h;simp[gOwnC]
 all_goals subst h;simp[gHubC]
theorem sInit_rows(f n:Nat):∀l∈sInit f n,l.length≤100:=fun l hl=>Nat.le_trans (sInit_all f n l hl) (by decide)
theorem sRegs_len(n:Nat):(sRegs n).length=n:=rowsF_len
theorem sCodes_len(f:Nat)(q:List (List SOp)):(sCodes f q).length=q.length:=by simp[sCodes]
theorem sCs_get{f t:Nat}{q:List (List SOp)}{l:List SOp}(h:q[t]?=some l):sCs f q t=scode f t l:=by unfold sCs;rw[List.getD_eq_getElem?_getD,h];rfl
end Qc
end
namespace Go.Proofs.YtppihkneeolomaaGreatDoor
section
open Qs Qh Qg Qu Qc
variable {f:Nat}{q:List (List SOp)}
def sM(f:Nat)(q:List (List SOp)):M:=startM 64 (sInit f q.length) (sRegs q.length) (sCodes f q)
theorem sInit_at(f n i:Nat):(sInit f n)[i]?=if i<n then some (gOwnC f i)else if i=n then some (gHubC f n)else if i=n+1 then some []else if i=n+2 then some []else if i=n+3 then some [0,(n:Int)+2,(n:Int)+3]else none:=by
 unfold sInit;simp only[List.append_assoc]
 by_cases h:i<n
 ·rw[List.getElem?_append_left (by rw[rowsF_len];exact h),rowsF_get h,if_pos h]
 ·rw[List.getElem?_append_right (by rw[rowsF_len];omega),rowsF_len,if_neg h];obtain ⟨d,rfl⟩:∃d,i=n+d:=⟨i - n,by omega⟩;rw[show n+d - n=d by omega]
  match d with
  |0=>simp
  |1=>simp
  |2=>simp
  |3=>simp
  |d+4=>
   rw[if_neg (by omega),if_neg (by omega),if_neg (by omega),if_neg (by omega)];simp
theorem s_cell{i:Nat}(hi:i<64):(sM f q).cells[i]?=some (if i<q.length+4 then ⟨pad 4 ((sInit f q.length).getD i []),1,true⟩else ⟨[0,0,0,0],0,false⟩):=by
 unfold sM startM;simp only;rw[List.getElem?_map,List.getElem?_range hi,sInit_len];rfl
theorem s_len:(sM f q).cells.length=64:=by simp[sM,startM]
theorem s_T(t:Nat)(ht:t<q.length):(sM f q).T[t]?=some ⟨scode f t (q.getD t []),gRegS q.length t,0⟩:=by
 unfold sM startM sCodes;simp only;rw[List.getElem?_mapIdx,List.getElem?_map,List.getElem?_range ht];unfold sRegs;simp only[Option.map_some];rw[List.getD_eq_getElem?_getD,rowsF_get ht];rfl
theorem s_Tlen:(sM f q).T.length=q.length:=by simp[sM,startM,sCodes]
theorem s_thr{t:Nat}(ht:t<q.length):(sM f q).thr t=⟨scode f t (q.getD t []),gRegS q.length t,0⟩:=by
 unfold M.thr;rw[List.getD_eq_getElem?_getD,s_T t ht];rfl
theorem s_wait(t:Nat):(sM f q).waitsOf t=[]:=by
 unfold M.waitsOf sM startM;simp only[List.getD,List.getElem?_replicate]
 split <;> rfl
theorem s_here(h6:q.length≤6)(x:Int):(absM (sM f q)).here x=true↔1≤x∧x≤q.length+4:=by
 rw[abs_here];constructor
 ·rintro ⟨a,b,y,c,d,e⟩;have hlt:=(List.getElem?_eq_some_iff.1 c).1;rw[s_len]at hlt;rw[s_cell hlt]at c
  by_cases h:celOf x<q.length+4
  ·rw[if_pos h]at c;cases c;simp only at e;unfold celOf at h;omega
  ·rw[if_neg h]at c;cases c;cases d
 ·intro h
  have hc:celOf x=(x - 1).toNat:=by unfold celOf;omega
  refine ⟨by omega,by omega,⟨pad 4 ((sInit f q.length).getD (celOf x) []),1,true⟩,?_,rfl,by simp only;omega⟩;rw[s_cell (by omega),if_pos (by omega)]
theorem s_val(h6:q.length≤6){i:Nat}(hi:i<q.length+4)(w:Nat):(absM (sM f q)).val ((i:Int)+1) w=(pad 4 ((sInit f q.length).getD i [])).getD w 0:=by
 rw[abs_val ((s_here h6 _).2 (by omega))];unfold getWord
 have hc:celOf ((i:Int)+1)=i:=by unfold celOf;omega
 rw[hc,s_cell (by omega),if_pos hi];rfl
theorem s_fine(h1:1≤f)(h4:f≤4)(h6:q.length≤6)(h20:∀l∈q,l.length≤20)(hp:∀l∈q,∀n,SOp.push n∈l→1≤n∧n≤1000):∀c∈sCodes f q,CodeFine c:=fun c hc=>by
 obtain ⟨t,ht,rfl⟩:=List.mem_map.1 hc;have htl:=List.mem_range.1 ht;unfold sCs
 have hm:q.getD t []∈q:=by rw[List.getD_eq_getElem?_getD,List.getElem?_eq_getElem htl];exact List.getElem_mem htl
 exact scode_fine h1 h4 t (by omega) (h20 _ hm) (hp _ hm)
theorem sInit_fine(f n:Nat)(hn:n≤6):RowsFine 4 (sInit f n):=fun l hl=>by
 refine ⟨sInit_all f n l hl,fun x hx=>?_⟩;simp only[sInit,List.mem_append,List.mem_singleton]at hl
 rcases hl with (((h|h)|h)|h)|h
 ·obtain ⟨i,hi,rfl⟩:=List.mem_map.1 h;have:=List.mem_range.1 hi;simp only[gOwnC,List.mem_cons,List.not_mem_nil,or_false]at hx;unfold isWord W32;simp only[Bool.and_eq_true,decide_eq_true_eq]
  rcases hx with rfl|rfl|rfl|rfl
  ·split <;> omega
  ·split <;> omega
  ·omega
  ·omega
 all_goals
  subst h;simp only[gHubC,List.mem_cons,List.not_mem_nil,or_false]at hx
  try unfold isWord W32
  try simp only[Bool.and_eq_true,decide_eq_true_eq]
 ·rcases hx with rfl|rfl|rfl|rfl
  ·omega
  ·omega
  ·split <;> omega
  ·omega
 ·rcases hx with rfl|rfl|rfl <;> omega
theorem sRegs_fine(n:Nat)(hn:n≤6):RowsFine 8 (sRegs n):=fun l hl=>by
 obtain ⟨t,ht,rfl⟩:=List.mem_map.1 hl;have htl:=List.mem_range.1 ht;refine ⟨Nat.le_refl 8,fun x hx=>?_⟩;simp only[gRegS,List.mem_cons,List.not_mem_nil,or_false]at hx;unfold isWord W32;simp only[Bool.and_eq_true,decide_eq_true_eq]
 rcases hx with rfl|rfl|rfl|rfl|rfl|rfl|rfl|rfl <;> omega
end
end Go.Proofs.YtppihkneeolomaaGreatDoor
section
namespace Qp
open Qs Qg Qo Qc Qh Go.Proofs.YtppihkneeolomaaGreatDoor
open Qk (Ro ChL Own cX cX_gr)
open Qu (labN Gh sumN)
variable {f n:Nat}{q:List (List SOp)}
def pushAll(q:List (List SOp)):List Int:=q.flatMap pshs
def sK(f:Nat)(q:List (List SOp))(h1:1≤f)(h4:f≤4)(h6:q.length≤6):Cp:=
 {X:=cX f q.length h1 h4 h6
  top:=(q.length:Int)+4
  lc:=fun t=>if t<4 then (q.length:Int)+2 else (q.length:Int)+3
  lw:=fun t=>t % 4
  nx:=2
  Z:=q.length+4+(pushAll q).length
  tg:=fun h=>by have:=cX_gr.1 h;omega
  lg:=fun t h=>by have:=cX_gr.1 h;split at this <;> omega
  lt:=fun t=>by split <;> omega
  li:=fun t u ht hu h1 h2=>by
   have ht:t<q.length:=ht;have hu:u<q.length:=hu
   revert h1
   split <;> split <;> omega
  n0:=Nat.le_refl 2}
variable {h1:1≤f}{h4:f≤4}{h6:q.length≤6}
def sRo(n:Nat)(x:Int):Ro:=if 1≤x∧x≤(n:Int)+4 then .sp else .no
theorem s_v(h6:q.length≤6){i:Nat}(hi:i<q.length+4)(w:Nat){x:Int}(hx:x=(i:Int)+1):(absM (sM f q)).val x w=(pad 4 ((sInit f q.length).getD i [])).getD w 0:=by rw[hx];exact s_val h6 hi w
theorem s_own(h6:q.length≤6){t:Nat}(ht:t<q.length)(w:Nat):(absM (sM f q)).val ((t:Int)+1) w=(gOwnC f t).getD w 0:=by
 rw[s_v h6 (i:=t) (by omega) w rfl]
 have:(sInit f q.length).getD t []=gOwnC f t:=by
  rw[List.getD_eq_getElem?_getD,sInit_at,if_pos ht];rfl
 rw[this];rfl
theorem s_hub(h6:q.length≤6)(w:Nat):(absM (sM f q)).val ((q.length:Int)+1) w=(gHubC f q.length).getD w 0:=by
 rw[s_v h6 (i:=q.length) (by omega) w rfl]
 have:(sInit f q.length).getD q.length []=gHubC f q.length:=by
  rw[List.getD_eq_getElem?_getD,sInit_at,if_neg (by omega),if_pos rfl];rfl
 rw[this];rfl
theorem s_top(h6:q.length≤6)(w:Nat):(absM (sM f q)).val ((q.length:Int)+4) w=[0,(q.length:Int)+2,(q.length:Int)+3,0].getD w 0:=by
 rw[s_v h6 (i:=q.length+3) (by omega) w (by omega)]
 have:(sInit f q.length).getD (q.length+3) []=[0,(q.length:Int)+2,(q.length:Int)+3]:=by
  rw[List.getD_eq_getElem?_getD,sInit_at,if_neg (by omega),if_neg (by omega),if_neg (by omega),if_neg (by omega),if_pos rfl];rfl
 rw[this];rfl
theorem s_lst(h6:q.length≤6){i:Nat}(hi:i=1∨i=2)(w:Nat):(absM (sM f q)).val ((q.length:Int)+i+1) w=0:=by
 rw[s_v h6 (i:=q.length+i) (by omega) w (by omega)]
 have:(sInit f q.length).getD (q.length+i) []=[]:=by
  rw[List.getD_eq_getElem?_getD,sInit_at,if_neg (by omega),if_neg (by omega)]
  rcases hi with rfl|rfl
  ·rw[if_pos rfl];rfl
  ·rw[if_neg (by omega),if_pos rfl];rfl
 rw[this]
 match w with
 |0=>rfl
 |1=>rfl
 |2=>rfl
 |3=>rfl
 |w+4=>rfl
theorem s_chain(h6:q.length≤6)(hf:f≠4):∀m,m≤q.length→(cX f q.length h1 h4 h6).Ch (absM (sM f q)).val (m:Int) (List.range m).reverse
 |0,_=>rfl
 |m+1,hm=>by
  rw[List.range_succ,List.reverse_append];refine ⟨?_,hm,?_⟩
  ·show ((m+1:Nat):Int)=if m<q.length then (m:Int)+1 else _
   rw[if_pos (by omega)];omega
  ·have e:(cX f q.length h1 h4 h6).own m=(m:Int)+1:=if_pos (by omega);rw[e,s_own h6 (by omega)];show (cX f q.length h1 h4 h6).Ch _ (if f=4 then 0 else (m:Int)) _;rw[if_neg hf];exact s_chain h6 hf m (by omega)
theorem s_reg(h6:q.length≤6){t:Nat}(ht:t<q.length)(k:Nat):(absM (sM f q)).reg t k=(gRegS q.length t).getD k 0:=by
 show ((sM f q).thr t).regs.getD k 0=_;rw[s_thr ht]
theorem s_buf(t:Nat):(absM (sM f q)).buf t=[]:=by
 show ((sM f q).waitsOf t).map enOf=[];rw[s_wait];rfl
structure PushOps(q:List (List SOp)):Prop where
 h20:∀l∈q,l.length≤20
 hp:∀l∈q,∀n,SOp.push n∈l→1≤n∧n≤1000
theorem sumN_list{α : Type}(g:List α→Nat)(l:List (List α)):∀k,k≤l.length→sumN (fun t=>g (l.getD t [])) k=((l.take k).map g).sum
 |0,_=>rfl
 |k+1,h=>by
  have hk:k<l.length:=by omega
  rw[sumN,sumN_list g l k (by omega),List.take_add_one,List.getElem?_eq_getElem hk,List.map_append,List.sum_append];simp[List.getD_eq_getElem?_getD,hk]
theorem sumN_zero{f:Nat→Nat}:∀(k:Nat),(∀i,i<k→f i=0)→sumN f k=0
 |0,_=>rfl
 |k+1,h=>by
  show sumN f k+f k=0;rw[sumN_zero k fun i hi=>h i (by omega),h k (by omega)]
def sG(q:List (List SOp)):Gh:=⟨fun t=>pshs (q.getD t []),[],fun _=>[],[],[]⟩
theorem sG_sum:sumN (fun t=>(pshs (q.getD t [])).length) q.length=(pushAll q).length:=by
 refine (sumN_list (fun x:List SOp=>(pshs x).length) q _ (Nat.le_refl _)).trans ?_;rw[List.take_length];unfold pushAll;rw[List.length_flatMap]
theorem sG_num:(sG q).num q.length=(pushAll q).length:=by
 unfold Gh.num;have h1:sumN (fun t=>((sG q).rem t).length) q.length=(pushAll q).length:=sG_sum;have h2:sumN (fun t=>((sG q).pend t).length) q.length=0:=sumN_zero _ fun _ _=>rfl;rw[h1,h2];simp[sG]
theorem sG_tot(v:Int):(sG q).tot q.length v=(pushAll q).count v:=by
 unfold Gh.tot
 have h1:sumN (fun t=>((sG q).rem t).count v) q.length=(pushAll q).count v:=by
  refine (sumN_list (fun x:List SOp=>(pshs x).count v) q _ (Nat.le_refl _)).trans ?_;rw[List.take_length];unfold pushAll;rw[List.count_flatMap];rfl
 have h2:sumN (fun t=>((sG q).pend t).count v) q.length=0:=sumN_zero _ fun _ _=>rfl;rw[h1,h2];simp[sG]
theorem pshs_len:∀l:List SOp,(pshs l).length≤l.length
 |[]=>Nat.le_refl _
 |x :: l=>by
  have:=pshs_len l;show (psh x++pshs l).length≤_;rw[List.length_append,List.length_cons]
  have:(psh x).length≤1:=by cases x <;> simp[psh]
  omega
theorem pushAll_len:∀(q:List (List SOp)),(∀l∈q,l.length≤20)→(pushAll q).length≤q.length*20
 |[],_=>Nat.le_refl _
 |l :: q,h=>by
  have:=pushAll_len q fun x hx=>h x (List.mem_cons_of_mem _ hx);have h1:=pshs_len l;have h2:=h l (by simp);show (pshs l++pushAll q).length≤_;rw[List.length_append,List.length_cons];omega
theorem s_lines(S:PushOps q){t:Nat}(ht:t<q.length) :
  (∀i x,(scode f t (q.getD t []))[i]?=some x→LineP (sK f q h1 h4 h6) t (scode f t (q.getD t [])) (annP f t (q.getD t [])) i x)∧HeadOk f (pshs (q.getD t [])) (annP f t (q.getD t []) 0):=by
 have hm:q.getD t []∈q:=by rw[List.getD_eq_getElem?_getD,List.getElem?_eq_getElem ht];exact List.getElem_mem ht
 exact all_lines h1 h4 rfl rfl rfl (by omega) _ (fun n hn=>S.hp _ hm n hn) (S.h20 _ hm)
theorem s_good(S:PushOps q):GoodP (sK f q h1 h4 h6) (fun t=>scode f t (q.getD t [])) (fun t=>annP f t (q.getD t [])) (sG q) 0 (sM f q):=by
 obtain ⟨ann,hann⟩:∃ann:Nat→Nat→An,ann=fun t=>annP f t (q.getD t []):=⟨_,rfl⟩;rw[←hann]
 have hH:∀t,t<q.length→HeadOk f (pshs (q.getD t [])) (ann t 0):=fun t ht=>by rw[hann];exact (s_lines (h1:=h1) (h4:=h4) (h6:=h6) S ht).2
 have hpos:∀t,t<q.length→posP ann (sM f q) t=(ann t 0).1∧flP ann (sM f q) t=(ann t 0).2:=fun t ht=>by
  unfold posP flP;rw[s_thr ht];exact ⟨rfl,rfl⟩
 clear hann
 have hst:∀t,t<q.length→genQ (posP ann (sM f q) t)=true∧∃d,startD f (posP ann (sM f q) t)=some d∧d<100∧(f≠3→d=0):=fun t ht=>by
  rw[(hpos t ht).1];exact ⟨(hH t ht).gq,(hH t ht).st⟩
 have hfl:∀t,t<q.length→(flP ann (sM f q) t).r=false∧(flP ann (sM f q) t).g=0∧Stat (flP ann (sM f q) t) (posP ann (sM f q) t) (pshs (q.getD t [])):=fun t ht=>by
  rw[(hpos t ht).1,(hpos t ht).2];exact ⟨(hH t ht).r,(hH t ht).g,(hH t ht).s⟩
 have hnh:∀t,t<q.length→¬hold (posP ann (sM f q) t):=fun t ht=>genQ_hold (hst t ht).1;have hOwn:∀t,t<q.length→(cX f q.length h1 h4 h6).own t=(t:Int)+1:=fun t ht=>if_pos ht
 have hown:∀t,t<q.length→∀w,(absM (sM f q)).val ((cX f q.length h1 h4 h6).own t) w=(gOwnC f t).getD w 0:=fun t ht w=>by rw[hOwn t ht];exact s_own h6 ht w
 have hbuf:=s_buf (f:=f) (q:=q)
 have hvw:∀t,t<q.length→(absM (sM f q)).vw t ((cX f q.length h1 h4 h6).own t) 0=if f=3 then 1 else 0:=fun t ht=>by
  rw[vw_nil (hbuf t),hown t ht];rfl
 have hh0:(absM (sM f q)).val (cX f q.length h1 h4 h6).hub 0=1:=by show (absM (sM f q)).val ((q.length:Int)+1) 0=1;rw[s_hub h6];rfl
 have hh1:(absM (sM f q)).val (cX f q.length h1 h4 h6).hub 1=0:=by show (absM (sM f q)).val ((q.length:Int)+1) 1=0;rw[s_hub h6];rfl
 have hh2:(absM (sM f q)).val (cX f q.length h1 h4 h6).hub 2=if f=4 then 0 else (q.length:Int):=by show (absM (sM f q)).val ((q.length:Int)+1) 2=_;rw[s_hub h6];rfl
 obtain ⟨L,hL⟩:∃L,L=if f=4 then []else (List.range q.length).reverse:=⟨_,rfl⟩
 have hch:(cX f q.length h1 h4 h6).Ch (absM (sM f q)).val ((absM (sM f q)).val (cX f q.length h1 h4 h6).hub 2) L:=by
  rw[hh2,hL]
  by_cases e:f=4
  ·rw[if_pos e,if_pos e];rfl
  ·rw[if_neg e,if_neg e];exact s_chain h6 e _ (Nat.le_refl _)
 have hcell:∀c∈(sM f q).cells,∃i,i<64∧c=(if i<q.length+4 then ⟨pad 4 ((sInit f q.length).getD i []),1,true⟩else ⟨[0,0,0,0],0,false⟩):=fun c hc=>by
  obtain ⟨i,hi⟩:=List.getElem?_of_mem hc
  have hlt:i<64:=by have:=(List.getElem?_eq_some_iff.1 hi).1;rw[s_len]at this;exact this
  rw[s_cell hlt]at hi;exact ⟨i,hlt,(Option.some.inj hi).symm⟩
 have hold0:∀a r,r<q.length→¬oldR (absM (sM f q)) (posP ann (sM f q)) (sRo q.length) a r:=fun a r hr ho=>hnh r hr ho.1
 refine ⟨⟨by rw[s_Tlen];rfl,by simp[sM,startM,sCodes];rfl,fun t ht=>by rw[s_thr ht],fun t ht=>by rw[s_thr ht];rfl,fun c hc=>?_,by rw[s_len];decide,fun t x hx=>(by rw[s_wait]at hx;cases hx)⟩,rfl,⟨sG q,.nil _,rfl,fun _=>rfl,L,sRo q.length,[],⟨fun t ht=>?_,.inl ⟨hh1,fun t ht h=>?_⟩,fun _=>.inl hh0,fun _=>(by show 1≤(absM (sM f q)).val (cX f q.length h1 h4 h6).hub 0∧(absM (sM f q)).val (cX f q.length h1 h4 h6).hub 0≤1+2*0;rw[hh0];omega),fun _ t _ e he=>(by rw[hbuf]at he;cases he),hch,fun g t ht=>?_,fun g t ht _=>?_,fun a r ha hr ho=>absurd ho (hold0 a r hr)⟩,?_⟩,fun v hv=>?_,fun c hc hh=>?_,s_len⟩
 ·obtain ⟨i,hi,rfl⟩:=hcell c hc
  by_cases h:i<q.length+4
  ·rw[if_pos h]
   have hle:((sInit f q.length).getD i []).length≤4:=by
    have hr:=sInit_fine f q.length h6;rw[List.getD_eq_getElem?_getD]
    cases e:(sInit f q.length)[i]? with
    |none=>simp
    |some y=>exact (hr y (List.mem_of_getElem? e)).1
   show (pad 4 ((sInit f q.length).getD i [])).length=4;rw[List.getD_eq_getElem?_getD]at hle;simp[pad];omega
  ·rw[if_neg h];rfl
 ·have ht:t<q.length:=ht;obtain ⟨hg,d,hd,hd1,hd2⟩:=hst t ht
  have Bq:=beg_of (X:=cX f q.length h1 h4 h6) hd hd1 ((absM (sM f q)).reg t) ((absM (sM f q)).buf t) (absM (sM f q)).val ((cX f q.length h1 h4 h6).Prot (absM (sM f q))) (oldR (absM (sM f q)) (posP ann (sM f q)) (sRo q.length) t) L t ((absM (sM f q)).vw t ((cX f q.length h1 h4 h6).own t) 0) ((absM (sM f q)).val (cX f q.length h1 h4 h6).hub 0)
  refine ⟨?_,?_,fun _ e he=>(by rw[hbuf]at he;cases he),fun g=>?_,fun g=>?_,fun g g2 h=>?_,fun g h=>?_,fun _ _ _ e he=>(by rw[hbuf]at he;cases he),fun g _=>?_,Bq.a,fun _=>Bq.c,Bq.b⟩
  ·show (absM (sM f q)).reg t 6=(cX f q.length h1 h4 h6).own t;rw[s_reg h6 ht,hOwn t ht];rfl
  ·show (absM (sM f q)).reg t 7=(q.length:Int)+1;rw[s_reg h6 ht];rfl
  ·have g':f≠3:=g;show (absM (sM f q)).vw t ((cX f q.length h1 h4 h6).own t) 0 % 256=_;rw[hvw t ht,if_neg g',Bq.n g,hd2 g'];rfl
  ·refine Prot_nil (hbuf t) ?_;show v512 ((absM (sM f q)).val ((cX f q.length h1 h4 h6).own t) 0);rw[hown t ht];show v512 (if f=3 then 1 else 0);unfold v512
   split <;> omega
  ·have:=Bq.s g h;have:=hd2 g;omega
  ·have g':f=4:=g;have:=Bq.l g h;have:=hd2 (by omega);omega
  ·have g':f=3:=g;show 1≤(absM (sM f q)).val ((cX f q.length h1 h4 h6).own t) 0∧(absM (sM f q)).val ((cX f q.length h1 h4 h6).own t) 0≤(absM (sM f q)).val (cX f q.length h1 h4 h6).hub 0;rw[hown t ht,hh0];show 1≤(if f=3 then (1:Int)else 0)∧(if f=3 then (1:Int)else 0)≤1;rw[if_pos g'];omega
 ·have ht:t<q.length:=ht;obtain ⟨hg,d,hd,hd1,_⟩:=hst t ht;exact (beg_of (X:=cX f q.length h1 h4 h6) hd hd1 ((absM (sM f q)).reg t) ((absM (sM f q)).buf t) (absM (sM f q)).val ((cX f q.length h1 h4 h6).Prot (absM (sM f q))) (oldR (absM (sM f q)) (posP ann (sM f q)) (sRo q.length) t) L t 0 0).h h
 ·have g':f≠4:=g;rw[hL,if_neg g'];simp;exact ht
 ·have g':f=4:=g;have ht:t<q.length:=ht;rw[hL,if_pos g']
  have:(absM (sM f q)).val ((cX f q.length h1 h4 h6).own t) 2=0:=by rw[hown t ht];rfl
  constructor
  ·intro h;cases h
  ·intro h;exact absurd this h
 ·have hsp:∀x,(sK f q h1 h4 h6).spec x→sRo q.length x=.sp:=fun x hx=>by
   unfold sRo
   rcases hx with hx|hx|⟨t,ht,hx⟩
   ·have:=(cX_gr (h1:=h1) (h4:=h4) (h6:=h6)).1 hx;rw[if_pos (by omega)]
   ·have hx:x=(q.length:Int)+4:=hx;rw[if_pos (by omega)]
   ·have hx:x=if t<4 then (q.length:Int)+2 else (q.length:Int)+3:=hx
    rw[if_pos (by split at hx <;> omega)]
  have hpub:∀x,sRo q.length x=.sp∨sRo q.length x=.no:=fun x=>by
   unfold sRo
   split
   ·exact .inl rfl
   ·exact .inr rfl
  have hmine:∀x t,sRo q.length x≠.mine t:=fun x t h=>by
   rcases hpub x with g|g <;> rw[g]at h <;> cases h
  refine ⟨?_,fun x hx=>?_,hsp,fun t ht=>?_,?_,List.nodup_nil,fun x=>⟨fun h=>?_,fun h=>(by cases h)⟩,fun t ht=>⟨?_,fun e he=>(by rw[hbuf]at he;cases he),[],?_,fun x hx=>(by cases hx),List.nodup_nil,?_⟩,fun t ht h=>absurd h (hnh t ht),fun t ht h=>absurd h (hnh t ht),fun t ht h=>absurd (hold2_hold h) (hnh t ht),fun t ht a1 a2 r hr h=>absurd h (hnh r hr),fun t ht a1 r hr h=>absurd h (hnh r hr),fun t ht e he=>(by rw[hbuf]at he;cases he),?_,fun t ht=>?_,fun t ht=>?_,rfl⟩
  ·unfold sRo;rw[if_neg (by omega)]
  ·refine (s_here h6 x).2 ?_;unfold sRo at hx
   split at hx
   ·omega
   ·exact absurd rfl hx
  ·have ht:t<q.length:=ht
   show (absM (sM f q)).val ((q.length:Int)+4) (1+t/4)=if t<4 then (q.length:Int)+2 else (q.length:Int)+3
   rw[s_top h6]
   by_cases h:t<4
   ·rw[if_pos h,show t/4=0 by omega];rfl
   ·rw[if_neg h,show t/4=1 by omega];rfl
  ·show (absM (sM f q)).val ((q.length:Int)+4) 0=0;rw[s_top h6];rfl
  ·rcases hpub x with g|g <;> rw[g]at h <;> cases h
  ·show (absM (sM f q)).reg t 5=(q.length:Int)+4;rw[s_reg h6 ht];rfl
  ·show (absM (sM f q)).vw t (if t<4 then (q.length:Int)+2 else (q.length:Int)+3) (t % 4)=0;rw[vw_nil (hbuf t)]
   split
   ·have:=s_lst (f:=f) h6 (i:=1) (.inl rfl) (t % 4);rw[show (q.length:Int)+(1:Nat)+1=(q.length:Int)+2 by omega]at this;exact this
   ·have:=s_lst (f:=f) h6 (i:=2) (.inr rfl) (t % 4);rw[show (q.length:Int)+(2:Nat)+1=(q.length:Int)+3 by omega]at this;exact this
  ·have ht:t<q.length:=ht;refine (Hnd_gen (hst t ht).1).2 fun h=>?_;rw[(hfl t ht).1]at h;cases h
  ·refine ⟨(List.range (q.length+4)).map fun i:Nat=>((i:Nat):Int)+1,?_,fun x=>?_,?_⟩
   ·rw[List.nodup_iff_pairwise_ne,List.pairwise_map]
    exact (List.nodup_iff_pairwise_ne.1 List.nodup_range).imp fun {a b} h=>by omega
   ·rw[s_here h6 x,List.mem_map];constructor
    ·intro h;exact ⟨(x - 1).toNat,List.mem_range.2 (by omega),by omega⟩
    ·rintro ⟨i,hi,rfl⟩;have:=List.mem_range.1 hi;omega
   ·rw[List.length_map,List.length_range]
    have hs:sumN (fun t=>nbOf (flP ann (sM f q) t) (posP ann (sM f q) t)) (sK f q h1 h4 h6).X.n=(pushAll q).length:=by
     rw[←sG_sum];exact Qu.sumN_cong _ fun t ht=>(hfl t ht).2.2.1
    rw[hs];exact Nat.le_refl _
  ·exact ((hfl t ht).2.2.2 _).symm
  ·exact (genQ_pend (hst t ht).1 _ _).symm
 ·obtain ⟨c,hc,rfl⟩:=List.mem_map.1 hv;obtain ⟨i,hi,rfl⟩:=hcell c hc
  split <;> simp
 ·obtain ⟨i,hi,rfl⟩:=hcell c hc
  split
  ·simp
  ·rename_i h;rw[if_neg h]at hh;cases hh
end Qp
end
namespace Go.Proofs.YtppihkneeolomaaGreatDoor
section
open Go.RowKit Qs Qh Qc
variable {N:Nat}{w w' w1:World}{v u x:Value}{ll:List (List ROp)}{l:List ROp}{z:List Int}
def giv1(x:ROp):List Int:=if x.1=kPush then [x.2]else []
def givR(l:List ROp):List Int:=l.flatMap giv1
def givA(ll:List (List ROp)):List Int:=ll.flatMap givR
theorem givR_snoc(y:ROp)(l:List ROp):givR (l++[y])=givR l++giv1 y:=by unfold givR;rw[List.flatMap_append];simp
theorem givA_snoc(ll:List (List ROp))(l:List ROp):givA (ll++[l])=givA ll++givR l:=by unfold givA;rw[List.flatMap_append];simp
theorem givR_len:∀l:List ROp,(givR l).length≤l.length
 |[]=>Nat.le_refl _
 |y :: l=>by
  have:=givR_len l
  have h:(giv1 y).length≤1:=by unfold giv1;split <;> simp
  show (giv1 y++givR l).length≤_;rw[List.length_append,List.length_cons];omega
theorem givA_len:∀ll:List (List ROp),(∀l∈ll,l.length≤20)→(givA ll).length≤20*ll.length
 |[],_=>by simp[givA]
 |l :: ll,h=>by
  have h1:=givA_len ll fun l hl=>h l (List.mem_cons_of_mem _ hl);have h2:=givR_len l;have h3:=h l (by simp);unfold givA at h1 ⊢;rw[List.flatMap_cons,List.length_append,List.length_cons];omega
theorem giv_raw:∀l:List SOp,givR (l.map sR)=Qp.pshs l
 |[]=>rfl
 |x :: l=>by
  show giv1 (sR x)++givR (l.map sR)=Qp.psh x++Qp.pshs l;rw[giv_raw l]
  congr 1
  cases x with
  |push n=>show (if kPush=kPush then [n]else [])=[n];rw[if_pos rfl]
  |pop=>show (if kPop=kPush then _ else [])=[];rw[if_neg (by decide)]
  |flush=>show (if kFlsh=kPush then _ else [])=[];rw[if_neg (by decide)]
theorem giv_all:∀q:List (List SOp),givA (rawS q)=Qp.pushAll q
 |[]=>rfl
 |l :: q=>by
  show givR (l.map sR)++givA (rawS q)=Qp.pshs l++Qp.pushAll q;rw[giv_raw,giv_all q]
theorem givenP_ok(H:RIn N w v ll)(h6:ll.length≤6)(h20:∀l∈ll,l.length≤20) :
  Calls Tryz.prog 17 #[v,.string kPush] w fun e w'=>∃x,e=.returned x∧Mod noF w w'∧IOwn w' x (givA ll)∧∀g,x.ownBlock=some g→w.heap.size≤g:=by
 have HH:=Lib.hid H;obtain ⟨a,c,rfl,-⟩:=H;have H20:=Lib.hid h20;have e3:=str_eq kPush;clear h20;obtain ⟨i0,hti,hz0,hz1,hz2⟩:=info_parts intInfo4
 go_enter Tryz.func17,Tryz.ntmps17
 go_wp2
 go_loopw [5,6] (fun x i wr=>∃k:Nat,k≤ll.length∧i=.int .i64 k∧Mod noF w wr∧IOwn wr x (givA (ll.take k))∧∀g,x.ownBlock=some g→w.heap.size≤g) (fun _ i _=>ll.length - (intOf i).toNat)
 case atStart=>exact ⟨0,Nat.zero_le _,rfl,Mod.refl _ _,IOwn.nil _,fun g h=>by cases h⟩
 case round=>
  obtain ⟨k,hk,rfl,hm,hO,hv⟩:=hrel;obtain ⟨xa,xb,xc,rfl⟩:=slice_of_own hO;generalize wr=w2 at *;have Hm:=Lib.hid hm;have HO:=Lib.hid hO;have Hv:=Lib.hid hv;clear hO hv
  by_cases hlt:k<ll.length
  ·have hd:decide ((k:Int)<(ll.length:Int))=true:=by simp;omega
   have hki:(k:Int)<(ll.length:Int):=by omega
   obtain ⟨l,hl⟩:∃l,ll[k]?=some l:=⟨_,List.getElem?_eq_getElem hlt⟩;obtain ⟨a',c',e',hxx⟩:=HH.out;cases e';obtain ⟨b,off,u,rfl,hb,hc,hr⟩:=hxx k l hl;obtain ⟨ua,uc,rfl,hxu⟩:=hr;have hl20:=H20.out l (List.mem_of_getElem? hl)
   have htk:ll.take (k+1)=ll.take k++[l]:=by rw[List.take_add_one,hl];rfl
   have hc0:=hm.cell hc (fun e=>e);have hxl:=givA_len (ll.take k) fun l hl=>H20.out l (List.mem_of_mem_take hl)
   have hxl2:(givA (ll.take k)).length≤120:=by
    rw[List.length_take]at hxl;omega
   have Hxu:=Lib.hid hxu;have Htk:=Lib.hid htk;have Hc:=Lib.hid hc;clear hxu htk hl hxx hxl hm;go_wp2
   go_loopw [5,7] (fun x i wr=>∃q:Nat,q≤l.length∧i=.int .i64 q∧Mod noF w wr∧IOwn wr x (givA (ll.take k)++givR (l.take q))∧∀g,x.ownBlock=some g→w.heap.size≤g) (fun _ i _=>l.length - (intOf i).toNat)
   case atStart=>exact ⟨0,Nat.zero_le _,rfl,Hm.out,by rw[List.take_zero];simpa[givR]using HO.out,Hv.out⟩
   case round=>
    obtain ⟨q,hq,rfl,hmw,hO2,hv2⟩:=hrel;obtain ⟨ya,yb,yc,rfl⟩:=slice_of_own hO2;obtain ⟨zz,hzz⟩:∃zz,zz=givA (ll.take k)++givR (l.take q):=⟨_,rfl⟩
    have hzl:zz.length≤150:=by
     have:=givR_len (l.take q);rw[List.length_take]at this;rw[hzz,List.length_append];omega
    rw[←hzz]at hO2;have hc5:=hmw.cell Hc.out (fun e=>e);have HO2:=Lib.hid hO2;have Hmw:=Lib.hid hmw;have Hv2:=Lib.hid hv2;have Hzz:=Lib.hid hzz;clear hO2 hv2 hzz
    by_cases hltq:q<l.length
    ·have hd2:decide ((q:Int)<(l.length:Int))=true:=by simp;omega
     have hqi:(q:Int)<(l.length:Int):=by omega
     obtain ⟨y,hyl⟩:∃y,l[q]?=some y:=⟨_,List.getElem?_eq_getElem hltq⟩;obtain ⟨ub,uoff,rfl,hub,h0,h1⟩:=Hxu.out q y hyl;have h0:=hmw.cell h0 (fun e=>e);have h1:=hmw.cell h1 (fun e=>e)
     have hps:givA (ll.take k)++givR (l.take (q+1))=zz++giv1 y:=by
      rw[Hzz.out,List.take_add_one,hyl,List.append_assoc];exact congrArg _ (givR_snoc y _)
     have Hps:=Lib.hid hps;clear hps hyl hmw;obtain ⟨yk,n⟩:=y;simp only at h0 h1
     by_cases hp:yk=kPush
     ·subst hp
      have hbnd:zz.length+1≤maxLen:=by unfold maxLen;omega
      go_wp2_with (at_builtin;refine wpList_append_mine _ rfl (.tmp 33) (.tmp 42) 23 rfl 3 i0 (.int .i64 0) 1 8 Tryz.underlying23 hti hz0 hz1 hz2 rfl (by decide) _ zz.length (zz.map (Value.int .i64)) rfl (by exact World.ownsRow.alloc HO2.out _) ⟨wr.heap.size,0,none⟩ 1 1 [.int .i64 n] rfl rfl (by exact new_cells_at _ _ _ rfl) (int_one n) hbnd (by omega) ?_;intro v4 w7 hown hgr hfr _;obtain ⟨va,vb,vc,rfl⟩:=slice_of_own hown;have Hown4:=Lib.hid hown;have Hgr:=Lib.hid hgr;have Hfr:=Lib.hid hfr;clear hown hgr hfr)
      go_wp2
      go_roundw
      case rel=>
       have hs:=Hmw.out.size
       have hpp:giv1 (kPush,n)=[n]:=by unfold giv1;rw[if_pos rfl]
       refine ⟨q+1,by omega,by go_num,(Hmw.out.alloc _).trans ((Mod.refl (fun x=>(Value.slice ya yb yc).ownBlock=some x) _).grown Hgr.out fun j hj _=>hj) fun x hx e=>?_,by rw[Hps.out,hpp];exact IOwn.snoc Hown4.out,fun g hg=>?_⟩
       ·have:=Hv2.out x e;omega
       ·rcases Hfr.out g hg with e|e
        ·exact Hv2.out g e
        ·simp at e;omega
      case measure=>simp[intOf];omega
     ·obtain ⟨e0,f0⟩:=str_neL (a:=yk) (b:=kPush) hp
      have Hps2:Hid (givA (ll.take k)++givR (l.take (q+1))=zz):=Lib.hid (by
       rw[Hps.out]
       have:giv1 (yk,n)=[]:=by unfold giv1;rw[if_neg hp]
       rw[this];exact List.append_nil _)
      clear hp;go_wp2
      go_roundw
      case rel=>exact ⟨q+1,by omega,by go_num,Hmw.out,by rw[Hps2.out];exact HO2.out,Hv2.out⟩
      case measure=>simp[intOf];omega
    ·have hd2:decide ((q:Int)<(l.length:Int))=false:=by simp;omega
     obtain rfl:q=l.length:=by omega
     have hfin:givA (ll.take (k+1))=zz:=by rw[Htk.out,givA_snoc,Hzz.out,List.take_length]
     have Hfin:=Lib.hid hfin;clear hfin hmw;go_wp2
     go_roundw
     case rel=>exact ⟨k+1,by omega,by go_num,Hmw.out,by rw[Hfin.out];exact HO2.out,Hv2.out⟩
     case measure=>simp[intOf];omega
  ·have hd:decide ((k:Int)<(ll.length:Int))=false:=by simp;omega
   obtain rfl:k=ll.length:=by omega
   have hO:=HO.out;rw[List.take_length]at hO;have HO':=Lib.hid hO;clear hO hm;go_wp2;go_ret;exact ⟨_,rfl,Hm.out,HO'.out,Hv.out⟩
end
end Go.Proofs.YtppihkneeolomaaGreatDoor
section
namespace Qp
open Qs Qg Qo Qc Qh Go.Proofs.YtppihkneeolomaaGreatDoor
open Qk (Ro ChL Own cX cX_gr partH)
open Qu (labN Gh sumN)
variable {f t:Nat}{q:List (List SOp)}{K:Cp}
theorem seg_len{a b:Nat}{r:List Seg}{p:An}(h:SegsOk K t a b r p):((r.map (·.1)).flatten).length=((r.map (·.2)).flatten).length:=by
 induction h with
 |nil=>rfl
 |cons _ _ _ hl _ _ ih=>
  simp only[List.map_cons,List.flatten_cons,List.length_append];omega
def n20(l:List Instr):Bool:=l.all fun x=>x.op != 20
theorem n20_append(a b:List Instr):n20 (a++b)=(n20 a&&n20 b):=List.all_append
theorem n20_part(h1:1≤f)(h4:f≤4)(k:Nat){j:Nat}(hj:j<5):n20 (part f k j)=true:=by
 have key:∀f<5,∀j<5,n20 (gcode f j)=true:=by decide +kernel
 have:=key f (by omega) j hj;unfold n20 part preC at *;rw[List.all_map];exact this
theorem n20_op(h1:1≤f)(h4:f≤4)(t k:Nat)(x:SOp):n20 (sblk f t k x)=true:=by
 cases x with
 |push n=>rfl
 |pop=>
  simp only[sblk,n20_append,n20_part h1 h4 k (show 0<5 by decide),n20_part h1 h4 (k+3) (show 1<5 by decide)];rfl
 |flush=>
  simp only[sblk,flushBlk,n20_append,n20_part h1 h4 k (show 4<5 by decide)];rfl
theorem n20_ops(h1:1≤f)(h4:f≤4)(t:Nat):∀(l:List SOp) (k:Nat),n20 (sopsCode f t k l)=true
 |[],_=>rfl
 |x :: l,k=>by
  simp only[sopsCode,n20_append,n20_op h1 h4 t k x,n20_ops h1 h4 t l];rfl
theorem ann_end(h1:1≤f)(h4:f≤4)(hf:K.X.f=f)(hnx:K.nx=2)(hlw:K.lw t=t % 4)(ht:t<8)(l:List SOp)(hV:∀n,SOp.push n∈l→1≤n∧n≤1000)(h20:l.length≤20)(i:Nat)
  (h:∀x,(scode f t l)[i]?=some x→x.op=20):annP f t l i=zA:=by
 have hlab:=slabs_le l;obtain ⟨o1,-⟩:=ops_ok (K:=K) (t:=t) (q:=zA) h1 h4 hf hnx hlw ht l 0 hV (by omega) ⟨rfl,⟨0,rfl,by decide,fun _=>rfl⟩,rfl,rfl,rfl,fun _=>rfl⟩;have hl1:=seg_len o1;rw[segOps_code]at hl1
 have hl2:(part f (slabs l) 3).length=(pf (fA []) (partH f 0 3)).length:=
  (part_lines (K:=K) (t:=t) (k:=slabs l) (F:=fA []) (q:=(.fin,fA [])) (d:=0) (j:=3) h1 h4 hf (by decide) (by decide) (fun h=>by cases h) (fun _=>rfl) ⟨.inl rfl,⟨0,rfl,by decide,fun _=>rfl⟩,fun _=>rfl,fun h=>h,.inl (Nat.le_refl _),⟨rfl,fun _=>rfl⟩⟩).1
 obtain ⟨A,hA⟩:∃A,A=sopsCode f t 0 l++part f (slabs l) 3:=⟨_,rfl⟩
 have hcode:scode f t l=A++[⟨20,0,0,0,[]⟩]:=by rw[hA];rfl
 have hn:n20 A=true:=by rw[hA,n20_append,n20_ops h1 h4,n20_part h1 h4 _ (by decide)];rfl
 have hi:A.length≤i:=by
  rcases Nat.lt_or_ge i A.length with g|g
  ·exfalso
   have hx:(scode f t l)[i]?=some A[i]:=by rw[hcode,List.getElem?_append_left g,List.getElem?_eq_getElem g]
   have h2:=h _ hx;have h3:=List.all_eq_true.1 hn _ (List.getElem_mem g);rw[h2]at h3;cases h3
  ·exact g
 obtain ⟨D,hD⟩:∃D,D=((segOps f t 0 l).map (·.2)).flatten++pf (fA []) (partH f 0 3):=⟨_,rfl⟩
 have hDl:D.length=A.length:=by rw[hD,hA,List.length_append,List.length_append,hl1,hl2]
 have hann:annP f t l i=(D++[zA,zA]).getD i zA:=by
  unfold annP segAll;rw[hD]
  congr 1
  simp;rfl
 rw[hann,List.getD_eq_getElem?_getD,List.getElem?_append_right (by omega)]
 match i - D.length with
 |0=>rfl
 |1=>rfl
 |j+2=>rfl
theorem nd_leI:∀(l k:List Int),l.Nodup→(∀x∈l,x∈k)→l.length≤k.length
 |[],k,_,_=>Nat.zero_le _
 |x :: l,k,hn,hk=>by
  have hx:=hk x (by simp);obtain ⟨h1,h2⟩:=List.nodup_cons.1 hn;have:=nd_leI l (k.erase x) h2 fun y hy=>(List.mem_erase_of_ne (fun e=>h1 (by rw[←e];exact hy))).2 (hk y (List.mem_cons_of_mem _ hy));have hl:=List.length_erase_of_mem hx;have:0<k.length:=List.length_pos_of_mem hx;rw[List.length_cons]
  omega
structure Piled(top:Int)(m:M)(ch:List Int):Prop where
 hq:(absM m).here top=true
 head:(absM m).val top 0=ch.getD 0 0
 hc:∀(i:Nat) a,ch[i]?=some a→(absM m).here a=true∧(absM m).val a 1=ch.getD (i+1) 0
 len:ch.length≤64
theorem chl_head{v:Int→Nat→Int}{nx:Nat}:∀ {ch:List Int} {h:Int},ChL v nx h ch→h=ch.getD 0 0
 |[],_,h=>h
 |_ :: _,_,h=>h.1
theorem chl_next{v:Int→Nat→Int}{nx:Nat}:∀ {ch:List Int} {h:Int},ChL v nx h ch→∀(i:Nat) a,ch[i]?=some a→v a nx=ch.getD (i+1) 0
 |[],_,_,_,_,e=>by cases e
 |x :: l,_,h,0,a,e=>by
  cases e;rw[chl_head h.2];cases l <;> rfl
 |x :: l,_,h,i+1,a,e=>chl_next h.2 i a (by simpa using e)
structure StackEnd(q:List (List SOp))(m:M):Prop where
 faults:m.faults=0
 within:∀v,(m.marks.map (·.2)).count v≤(pushAll q).count v
 r5:(absM m).reg 0 5=(q.length:Int)+4
 T:m.T.length=q.length
 rests:m.rest=true→(pushAll q).length≤40→∃ch,Piled ((q.length:Int)+4) m ch∧(∀v,(m.marks.map (·.2)++ch.map fun a=>(absM m).val a 0).count v≤(pushAll q).count v)∧m.marks.length+ch.length=(pushAll q).length
theorem ss_law(h1:1≤f)(h4:f≤4)(hq1:1≤q.length)(h6:q.length≤6)(S:PushOps q)(l:List Int)(hl:l.length≤100000):StackEnd q ((sM f q).run l).1:=by
 have hp:=pushAll_len q S.h20
 have hnum:(sG q).num (sK f q h1 h4 h6).X.n<500:=by show (sG q).num q.length<500;rw[sG_num];omega
 have G:=GoodP.run (K:=sK f q h1 h4 h6) (code:=fun t=>scode f t (q.getD t [])) (ann:=fun t=>annP f t (q.getD t [])) hnum hq1 (fun r hr=>by
  show (if r<q.length then (r:Int)+1 else (r:Int)+100)≠0
  split <;> omega) (fun t ht=>(s_lines S ht).1) l (s_good S) (Int.le_refl 0) (by omega)
 generalize ((sM f q).run l).1=m at G;obtain ⟨H,e1,e2,e3,L,R,ch,C,D⟩:=G.inv;have htot:∀v,(sG q).tot q.length v=H.tot q.length v:=fun v=>(e1.tot v).symm;refine ⟨G.ft,fun v=>?_,(D.th 0 hq1).r5,G.W.T,fun hr h40=>⟨ch,?_⟩⟩
 ·rw[←sG_tot,htot,←e2];unfold Gh.tot;omega
 ·have hr':=M.rest_iff.1 hr;rw[show m.T.length=q.length from G.W.T]at hr'
  have hpos:∀t,t<q.length→annP f t (q.getD t []) (m.thr t).pc=zA:=fun t ht=>by
   have hm:q.getD t []∈q:=by rw[List.getD_eq_getElem?_getD,List.getElem?_eq_getElem ht];exact List.getElem_mem ht
   refine ann_end (K:=sK f q h1 h4 h6) h1 h4 rfl rfl rfl (by omega) _ (fun n hn=>S.hp _ hm n hn) (S.h20 _ hm) _ fun x hx=>?_;have hd:=(hr' t ht).1;unfold M.done at hd;rw[show (m.thr t).code=scode f t (q.getD t [])from G.W.code t ht,hx]at hd
   simpa using hd
  have hrem:∀t,t<q.length→H.rem t=[]:=fun t ht=>by
   rw[D.rem t ht];unfold flP posP;simp only[hpos t ht];rfl
  have hpend:∀t,t<q.length→H.pend t=[]:=fun t ht=>by
   rw[D.pend t ht];unfold posP;simp only[hpos t ht];rfl
  have hlost:H.lost=[]:=e3 (by show q.length+4+(pushAll q).length≤64;omega);have hhere:∀x∈ch,(absM m).here x=true:=fun x hx=>D.hr x (by rw[(D.cp x).2 hx];simp);have htop:R ((q.length:Int)+4)=.sp:=sp_top D
  refine ⟨⟨D.hr _ (by rw[htop];simp),chl_head D.cl,fun i a ha=>⟨hhere a (List.mem_of_getElem? ha),chl_next D.cl i a ha⟩,?_⟩,fun v=>?_,?_⟩
  ·obtain ⟨Ls,k1,k2,k3⟩:=D.cells;have:=nd_leI ch Ls D.cn fun x hx=>(k2 x).1 (hhere x hx);have hz:(sK f q h1 h4 h6).Z=q.length+4+(pushAll q).length:=rfl;omega
  ·rw[←sG_tot,htot,←e2,List.count_append,←D.chv];unfold Gh.tot;omega
  ·have h:=e1.num;rw[show (sG q).num (sK f q h1 h4 h6).X.n=(pushAll q).length from sG_num]at h
   have hv:H.chv.length=ch.length:=by rw[D.chv,List.length_map]
   rw[←h,←e2,←hv];unfold Gh.num;rw[sumN_zero _ fun t ht=>by rw[hrem t ht];rfl,sumN_zero _ fun t ht=>by rw[hpend t ht];rfl,hlost];simp;omega
end Qp
end
namespace Go.Proofs.YtppihkneeolomaaGreatDoor
section
open Go.RowKit Qs Qh Qg
variable {w w':World}{L:Lay}{m:M}{N:Int}
def lenOf:Value→Nat
 |.slice _ n _=>n
 |_=>0
theorem IOwn.len{x:Value}{l:List Int}(h:IOwn w x l):lenOf x=l.length:=by
 rcases h.2 with ⟨rfl,h0⟩|⟨g,cap,cur,rfl,_⟩
 ·exact h0.symm
 ·rfl
theorem NodeAt.quiet{x:Int}(h:NodeAt w L m x){w1:World}(hM:Mod noF w w1):NodeAt w1 L m x:=by
 obtain ⟨c,hc⟩:=h.cell;exact ⟨h.rf,h.at_,h.lo,h.hi,h.lt,⟨c,hM.cell hc (fun e=>e)⟩,hM.cell h.w0 (fun e=>e),hM.cell h.w1 (fun e=>e)⟩
theorem chainP_ok(X:Mach ty w L m N)(hN:N≤1000000){ch:List Int}(hl64:ch.length≤64)(hc:∀(i:Nat) a,ch[i]?=some a→(absM m).here a=true∧(absM m).val a 1=ch.getD (i+1) 0) :
  Calls Tryz.prog 22 #[.pointer (some ⟨L.blk 0 0,0,none⟩),.int .i64 (ch.getD 0 0)] w fun e w'=>∃x,e=.returned (.tuple #[x,.bool true])∧Mod noF w w'∧IOwn w' x (ch.map fun a=>(absM m).val a 0)∧∀g,x.ownBlock=some g→w.heap.size≤g:=by
 have hh:=X.head
 have h0:w.cell? ⟨L.blk 0 0,0,none⟩=some (.pointer (some ⟨L.blk 1 0,0,none⟩)):=by rw[cell_of_heap hh];rfl
 have c1:=X.rep.cells_at rfl X.ol;have hlen64:=X.om.cells;have hnode:∀(i:Nat) a,ch[i]?=some a→NodeAt w L m a∧(absM m).val a 1=ch.getD (i+1) 0:=fun i a ha=>⟨node_at X (hc i a ha).1,(hc i a ha).2⟩;have Hnode:=Lib.hid hnode;have HX:=Lib.hid X
 obtain ⟨vf,hvf⟩:∃vf:Int→Int,vf=fun a=>(absM m).val a 0:=⟨_,rfl⟩
 have hv0:∀a,(absM m).val a 0=vf a:=fun a=>by rw[hvf]
 rw[←hvf];have Hv0:=Lib.hid hv0;clear hh hnode X hc hv0 hvf;obtain ⟨i0,hti,hz0,hz1,hz2⟩:=info_parts intInfo'
 go_enter Tryz.func22,Tryz.ntmps22
 go_wp2
 go_loopw [1,6] (fun wd x wr=>∃i:Nat,i≤ch.length∧wd=.int .i64 (ch.getD i 0)∧Mod noF w wr∧IOwn wr x ((ch.take i).map vf)∧∀g,x.ownBlock=some g→w.heap.size≤g) (fun _ x _=>ch.length - lenOf x)
 case atStart=>exact ⟨0,Nat.zero_le _,rfl,Mod.refl _ _,IOwn.nil _,fun g h=>by cases h⟩
 case round=>
  obtain ⟨i,hi,rfl,hm,hO,hv⟩:=hrel;have hlx:=hO.len;obtain ⟨xa,xb,xc,rfl⟩:=slice_of_own hO;rw[List.length_map,List.length_take,Nat.min_eq_left hi]at hlx;obtain rfl:xb=i:=hlx
  by_cases hlt:xb<ch.length
  ·obtain ⟨a,ha⟩:∃a,ch[xb]?=some a:=⟨_,List.getElem?_eq_getElem hlt⟩
   have hga:ch.getD xb 0=a:=by rw[List.getD_eq_getElem?_getD,ha];rfl
   obtain ⟨F,hnx⟩:=Hnode.out xb a ha
   have htk:(ch.take (xb+1)).map vf=(ch.take xb).map vf++[vf a]:=by rw[List.take_add_one,ha];simp
   obtain ⟨zz,hzz⟩:∃zz,zz=(ch.take xb).map vf:=⟨_,rfl⟩
   have hzl:zz.length=xb:=by rw[hzz];simp;omega
   rw[←hzz]at hO htk;rw[hga];have a0:=F.lo;have a1:=F.hi
   have n1:(a==0)=false:=by simp;omega
   have n2:decide (a=0)=false:=by simp;omega
   have d64:decide ((64:Int)<(xb:Int))=false:=by simp;omega
   have d64':decide (64<xb)=false:=by simp;omega
   have HF:=Lib.hid F;have Hm:=Lib.hid hm;have HO:=Lib.hid hO;have Hv:=Lib.hid hv;have Htk:=Lib.hid htk;have Hnx:=Lib.hid hnx;have Hzl:=Lib.hid hzl;clear F hnx htk hzz hO hv hm ha hga hzl
   go_wp2_with fail
   refine (refOf_any a _ (by omega) (by omega)).mono ?_;rintro e w1 ⟨rfl,hm1⟩;rw[HF.out.rf];go_wp2
   go_name_world wn hwn
   have hmn:Mod noF w wn:=by rw[←hwn];exact (Hm.out.trans0 hm1).alloc _
   have r0:wn.cell? ⟨w1.heap.size,0,none⟩=some (.int .i64 (celOf a:Int)):=by rw[←hwn];simp
   have r1:wn.cell? ⟨w1.heap.size,1,none⟩=some (.int .i64 ((a - 1)/64)):=by rw[←hwn];simp
   have hq:Mod noF wr wn:=by rw[←hwn];exact hm1.alloc _
   have g0:=hmn.cell h0 (fun e=>e);have hsw1:=hm1.size
   have hce:(celOf a:Int)<(m.cells.length:Int):=by have:=HF.out.lt;omega
   have Hmn:=Lib.hid hmn;have Hq:=Lib.hid hq;clear hwn hmn hm1 hq
   have hS:∀W,Mod noF wn.drew W→Mod noF wn.drew W∧W.cell? ⟨L.blk 0 0,0,none⟩=some (.pointer (some ⟨L.blk 1 0,0,none⟩))∧W.cell? ⟨w1.heap.size,0,none⟩=some (.int .i64 (celOf a:Int))∧W.cell? ⟨w1.heap.size,1,none⟩=some (.int .i64 ((a - 1)/64)):=fun W hW=>⟨hW,hW.cell g0 (fun e=>e),hW.cell r0 (fun e=>e),hW.cell r1 (fun e=>e)⟩
   have HS:=Lib.hid hS
   have hcall:∀W,Mod noF wn.drew W→Calls Tryz.prog 35 #[.pointer (some ⟨L.blk 1 0,0,none⟩),.agg #[.int .i64 (celOf a:Int),.int .i64 ((a - 1)/64)],.int .i64 0] W fun e w'=>e=.returned (.int .i64 0)∧Mod noF W w'∧Mod noF wn.drew w':=fun W hW=>by
    have:=at_any (HX.out.rep.frame0 ((Hmn.out.trans0 (Mod.refl _ _).drew).trans0 hW)) rfl rfl HX.out.om HX.out.ol (by omega) (celOf a:Int) ((a - 1)/64) 0;rw[HF.out.at_]at this;exact this.mono fun e w' h=>⟨h.1,h.2,hW.trans0 h.2⟩
   have Hcall:=Lib.hid hcall;clear hS hcall
   go_region_held3 (fun W=>Mod noF wn.drew W∧W.cell? ⟨L.blk 0 0,0,none⟩=some (.pointer (some ⟨L.blk 1 0,0,none⟩))∧W.cell? ⟨w1.heap.size,0,none⟩=some (.int .i64 (celOf a:Int))∧W.cell? ⟨w1.heap.size,1,none⟩=some (.int .i64 ((a - 1)/64))) ((refine HS.out _ ?_;first|assumption|exact Mod.refl _ _)) (first|(go_at_call 35;go_split_ands;refine (Hcall.out _ ?_).mono ?_;assumption;rintro e w5 ⟨rfl,hm0,hm1⟩))
   all_goals
    have hm6:=Hmn.out.trans0 (((Mod.refl noF wn).drew).trans0 hm1);have hq6:=Hq.out.trans0 (((Mod.refl noF wn).drew).trans0 hm1);have hm5:=hm1;have b0:=hm6.cell h0 (fun e=>e);have b1:=hm6.cell c1 (fun e=>e);obtain ⟨cc,hcc⟩:=(HF.out.quiet hm6).cell;have bw0:=(HF.out.quiet hm6).w0
    have bw1:=(HF.out.quiet hm6).w1;rw[Hv0.out]at bw0;rw[Hnx.out]at bw1;have b3:=hm5.cell r0 (fun e=>e);have Hm6:=Lib.hid hm6;have hO6:=HO.out.keep hq6 (fun _ _ e=>e);have HO6:=Lib.hid hO6;clear hm6 hm5 hq6 hO6;go_wp2
    have hbnd:xb+1≤maxLen:=by unfold maxLen;omega
    have ho6:w5.ownsRow 0 3 1 (.slice xa xb xc) xb (zz.map (Value.int .i64)):=by
     have:=HO6.out;unfold IOwn at this;rw[Hzl.out]at this;exact this
    have Ho6:=Lib.hid ho6;clear ho6
    go_region_law (refine step_append_mine _ rfl (.tmp 32) (.tmp 47) 23 rfl 3 i0 (.int .i64 0) 1 8 Tryz.underlying23 hti hz0 hz1 hz2 rfl (by decide) _ xb (zz.map (Value.int .i64)) rfl (by exact World.ownsRow.alloc Ho6.out _) ⟨w5.heap.size,0,none⟩ 1 1 [.int .i64 (vf a)] rfl rfl (by exact new_cells_at _ _ _ rfl) (int_one (vf a)) hbnd (by omega) ?_;intro v4 w7 hown hgr hfr _;obtain ⟨va,vb,vc,rfl⟩:=slice_of_own hown;have Hown4:=Lib.hid hown;have Hgr:=Lib.hid hgr;have Hfr:=Lib.hid hfr;clear hown hgr hfr)
    all_goals
     have hm7:Mod noF w w7:=(Hm6.out.alloc _).drew.trans ((Mod.refl (fun x=>(Value.slice xa xb xc).ownBlock=some x) _).grown Hgr.out fun j hj _=>hj) fun x hx e=>by have:=Hv.out x e;omega
     have hw5:=Hm6.out.size;have hq7:Mod (fun x=>(Value.slice xa xb xc).ownBlock=some x) w5 w7:=((Mod.refl (fun x=>(Value.slice xa xb xc).ownBlock=some x) w5).alloc _).drew.grown Hgr.out fun j hj _=>hj;have d0:=hm7.cell h0 (fun e=>e);have d1:=hm7.cell c1 (fun e=>e)
     obtain ⟨cd,hcd⟩:=(HF.out.quiet hm7).cell;have dw1:=(HF.out.quiet hm7).w1;rw[Hnx.out]at dw1
     have hbx:¬(Value.slice xa xb xc).ownBlock=some w1.heap.size:=fun e=>by
      have:=HO.out.lt e;omega
     have d3:=hq7.cell b3 hbx;have Hm7:=Lib.hid hm7;clear hm7 hq7 hbx;go_wp2
     go_quiet (fail)
     go_wp2
     have hio:IOwn w7 (.slice va vb vc) (zz++[vf a]):=by
      have h:=Hown4.out;rw[←Hzl.out]at h;exact IOwn.snoc h
     have hll:=hio.len;rw[List.length_append,Hzl.out]at hll;refine ⟨⟨xb+1,by omega,by simp[List.getD_eq_getElem?_getD],Hm7.out.drewN _,?_,fun g hg=>?_⟩,?_⟩
     ·rw[Htk.out];exact hio.keep ((Mod.refl noF w7).drewN _) (fun _ _ e=>e)
     ·rcases Hfr.out g hg with e|e
      ·exact Hv.out g e
      ·simp at e;omega
     ·rw[hll];show ch.length - (xb+1)<ch.length - xb;omega
  ·obtain rfl:xb=ch.length:=by omega
   have hge:ch.getD ch.length 0=0:=by rw[List.getD_eq_getElem?_getD,List.getElem?_eq_none (Nat.le_refl _)];rfl
   rw[hge];rw[List.take_length]at hO;have Hm:=Lib.hid hm;have HO:=Lib.hid hO;have Hv:=Lib.hid hv;clear hm hO hv hge;go_wp2;go_ret2;exact ⟨_,rfl,Hm.out,HO.out,Hv.out⟩
end
section
open Go.RowKit Qs Qh
variable {N k S:Nat}{w w1 w':World}{v u cv cv':Value}{ll:List (List ROp)}{l:List ROp}{cs:Nat→List ROp}{vk:Nat→Value}
structure Rls(S:Nat)(w:World)(cv:Value)(cs:Nat→List ROp)(k:Nat)(vk:Nat→Value):Prop where
 own:w.ownsRow 0 86 1 cv k ((List.range k).map vk)
 vin:∀g,cv.ownBlock=some g→S≤g
 at_:∀i,i<k→RRow w.heap.size w (vk i) (cs i)
 bin:∀i g,i<k→(vk i).ownBlock=some g→S≤g∧g<w.heap.size
 ne:∀i g,i<k→(vk i).ownBlock=some g→cv.ownBlock≠some g
theorem Rls.nil(S:Nat)(w:World)(cs:Nat→List ROp)(vk:Nat→Value):Rls S w (.slice none 0 0) cs 0 vk:=
 ⟨World.ownsRow_nil w 0 _ 1,fun g h=>(by cases h),fun i h=>by omega,fun i g h=>by omega,fun i g h=>by omega⟩
theorem Rls.keep(C:Rls S w cv cs k vk){F:Nat→Prop}(hM:Mod F w w1)(hF:∀b,S≤b→b<w.heap.size→¬F b):Rls S w1 cv cs k vk:=by
 refine ⟨⟨C.own.1,?_⟩,C.vin,fun i hi=>((C.at_ i hi).frame hM fun b hb=>hF b (C.bin i b hi hb).1 (C.bin i b hi hb).2).mono hM.size,fun i g hi hg=>⟨(C.bin i g hi hg).1,Nat.lt_of_lt_of_le (C.bin i g hi hg).2 hM.size⟩,C.ne⟩
 rcases C.own.2 with e|⟨g,cap,cur,rfl,h0,hg,r⟩
 ·exact .inl e
 ·exact .inr ⟨g,cap,cur,rfl,h0,hM.heap hg (hF _ (C.vin g rfl) (lt_of_block hg)),r⟩
theorem Rls.push(C:Rls S w cv cs k vk)(hS:S≤w.heap.size)(hc:RRow w.heap.size w u (cs k))(hu:∀g,u.ownBlock=some g→S≤g∧g<w.heap.size∧cv.ownBlock≠some g)
  (hown:w1.ownsRow 0 86 1 cv' (k+1) ((List.range k).map vk++[u])) (hg:w.grownBy w1 cv.ownBlock) (hfr:∀g,cv'.ownBlock=some g→cv.ownBlock=some g∨w.heap.size≤g) :
  Rls S w1 cv' cs (k+1) (fun i=>if i=k then u else vk i):=by
 have hM:Mod (fun x=>cv.ownBlock=some x) w w1:=(Mod.refl (fun x=>cv.ownBlock=some x) w).grown hg fun j hj _=>hj;refine ⟨?_,fun g h=>?_,fun i hi=>?_,fun i g hi h=>?_,fun i g hi h e=>?_⟩
 ·have:(List.range (k+1)).map (fun i=>if i=k then u else vk i)=(List.range k).map vk++[u]:=by
   rw[List.range_succ,List.map_append]
   congr 1
   ·refine List.map_congr_left fun i hi=>?_;have:=List.mem_range.1 hi;rw[if_neg (by omega)]
   ·simp
  rw[this];exact hown
 ·rcases hfr g h with e|e
  ·exact C.vin g e
  ·omega
 ·by_cases e:i=k
  ·subst e;simp only[if_true];exact (hc.frame hM fun b hb e=>(hu b hb).2.2 e).mono hM.size
  ·rw[if_neg e];exact ((C.at_ i (by omega)).frame hM fun b hb e'=>C.ne i b (by omega) hb e').mono hM.size
 ·have hs:=hM.size
  by_cases e:i=k
  ·subst e;simp only[if_true]at h;have:=hu g h;exact ⟨this.1,by omega⟩
  ·rw[if_neg e]at h;have:=C.bin i g (by omega) h;exact ⟨this.1,by omega⟩
 ·have hlt:g<w.heap.size:=by
   by_cases e:i=k
   ·subst e;simp only[if_true]at h;exact (hu g h).2.1
   ·rw[if_neg e]at h;exact (C.bin i g (by omega) h).2
  rcases hfr g e with e'|e'
  ·by_cases e2:i=k
   ·subst e2;simp only[if_true]at h;exact (hu g h).2.2 e'
   ·rw[if_neg e2]at h;exact C.ne i g (by omega) h e'
  ·omega
theorem Rls.rin(C:Rls S w cv cs k vk):RIn w.heap.size w cv ((List.range k).map cs):=by
 rcases C.own.2 with ⟨rfl,h0⟩|⟨g,cap,cur,rfl,_,hg,h1,h2,h3,h4⟩
 ·subst h0;exact ⟨none,0,rfl,fun i l h=>by simp at h⟩
 ·refine ⟨some ⟨g,0,none⟩,cap,by simp,fun i l h=>?_⟩
  have hlt:i<k:=by have:=(List.getElem?_eq_some_iff.1 h).1;simpa using this
  have hl:l=cs i:=by
   rw[List.getElem?_map,List.getElem?_range hlt]at h;exact (Option.some.inj h).symm
  subst hl;refine ⟨g,0,vk i,rfl,lt_of_block hg,?_,C.at_ i hlt⟩;rw[cell_of_heap hg,Nat.zero_add]
  have e:cur[i]?=(cur.toList.take (k*1))[i]?:=by
   rw[List.getElem?_take,if_pos (by omega)];simp
  rw[e,h4,List.getElem?_map,List.getElem?_range hlt];rfl
end
section
open Go.RowKit Qs Qh
theorem opInfoR:(Tryz.prog.info? 88).map (fun i=>(i.zero,i.size,i.bytes))=some (some (.agg #[.string ⟨#[]⟩,.int .i64 0]),2,24):=by kernel_rfl
theorem opsInfoR:(Tryz.prog.info? 86).map (fun i=>(i.zero,i.size,i.bytes))=some (some (.slice none 0 0),1,24):=by kernel_rfl
variable {N k S:Nat}{w w1 w':World}{v u cv cv':Value}{ll:List (List ROp)}{l:List ROp}{cs:Nat→List ROp}{vk:Nat→Value}
def NilOk(w:World)(v:Value):Prop:=∀b off n m (i:Nat) k c,v=.slice (some ⟨b,off,none⟩) n m→i<n→w.cell? ⟨b,off+i,none⟩=some (.slice none k c)→c=0
theorem rV_ones(l:List ROp):∀s,∀u∈flat rV s l,u.oneCell'=true:=by
 induction l with
 |nil=>intro s u h;cases h
 |cons x l ih=>
  intro s u h;simp only[flat,rV,List.mem_append]at h
  rcases h with h|h
  ·simp at h;rcases h with rfl|rfl <;> rfl
  ·exact ih (s+1) u h
theorem rV_len(l:List ROp)(s:Nat):(flat rV s l).length=l.length*2:=flat_length rV 2 (fun _ _=>rfl) l s
theorem RRow.src{ad:Addr}{n c:Nat}(h:RRow N w (.slice (some ad) n c) l):∀(j:Nat) y,(flat rV 0 l)[j]?=some y→w.cell? (ad.add j)=some y:=by
 obtain ⟨a,c',e,hx⟩:=h;intro j y hj;have hlt:=(List.getElem?_eq_some_iff.1 hj).1;rw[rV_len]at hlt;obtain ⟨x,hxi⟩:∃x,l[j/2]?=some x:=⟨_,List.getElem?_eq_getElem (by omega)⟩;obtain ⟨b,off,rfl,hb,h0,h1⟩:=hx (j/2) x hxi;cases e
 have hgt:=flat_get rV 2 (fun _ _=>rfl) (show j % 2<2 by omega) l 0 (j/2) x hxi [];rw[List.append_nil,show j/2*2+j % 2=j by omega,hj]at hgt
 have hadd:(⟨b,off,none⟩:Addr).add j=⟨b,off+j,none⟩:=by unfold Addr.add;split <;> simp_all
 rw[hadd]
 rcases (by omega:j % 2=0∨j % 2=1)with e|e
 ·rw[e]at hgt;have:some y=some (Value.string x.1):=hgt;rw[this,←h0,show off+j=off+j/2*2 by omega]
 ·rw[e]at hgt;have:some y=some (Value.int .i64 x.2):=hgt;rw[this,←h1,show off+j=off+j/2*2+1 by omega]
theorem opsOf_ok(H:RIn N w v ll)(hnil:NilOk w v)(hlen:ll.length≤10)(hrow:∀l∈ll,l.length≤30) :
  Calls Tryz.prog 12 #[v] w fun e w'=>∃x,e=.returned x∧Mod noF w w'∧RIn w'.heap.size w' x ll:=by
 have HH:=Lib.hid H;obtain ⟨a,c,rfl,-⟩:=H;have Hrow:=Lib.hid hrow;have Hnil:=Lib.hid hnil;clear hrow hnil;obtain ⟨i0,hti,hz0,hz1,hz2⟩:=info_parts opInfoR;obtain ⟨j0,htj,hy0,hy1,hy2⟩:=info_parts opsInfoR
 go_enter Tryz.func12,Tryz.ntmps12
 go_wp2
 go_loopw [3,4] (fun x i wr=>∃(k:Nat) (vk:Nat→Value),k≤ll.length∧i=.int .i64 k∧Mod noF w wr∧Rls w.heap.size wr x (fun i=>ll.getD i []) k vk) (fun _ i _=>ll.length - (intOf i).toNat)
 case atStart=>exact ⟨0,fun _=>.nilIface,Nat.zero_le _,rfl,Mod.refl _ _,Rls.nil _ _ _ _⟩
 case round=>
  obtain ⟨k,vk,hk,rfl,hm,hO⟩:=hrel;obtain ⟨xa,xb,xc,rfl⟩:=slice_of_own hO.own;have HO:=Lib.hid hO;have Hm:=Lib.hid hm;clear hO
  by_cases hlt:k<ll.length
  ·have hd:decide ((k:Int)<(ll.length:Int))=true:=by simp;omega
   have hki:(k:Int)<(ll.length:Int):=by omega
   obtain ⟨l,hl⟩:∃l,ll[k]?=some l:=⟨_,List.getElem?_eq_getElem hlt⟩;obtain ⟨a',c',e',hx⟩:=HH.out;cases e';obtain ⟨b,off,u,rfl,hb,hc,hr⟩:=hx k l hl;have hrl:=hr.keep hm (fun _ _ e=>e);obtain ⟨ua,uc,rfl,-⟩:=hr;have hc1:=hm.cell hc (fun e=>e);have hl30:=Hrow.out l (List.mem_of_getElem? hl)
   have hls:ll.getD k []=l:=by rw[List.getD_eq_getElem?_getD,hl];rfl
   have hsz:=hm.size
   have hbnd:k+1≤maxLen:=by unfold maxLen;omega
   have hbnd2:0+l.length≤maxLen:=by unfold maxLen;omega
   have Hls:=Lib.hid hls;have Hrl:=Lib.hid hrl;have hnl:=Hnil.out b off _ _ k l.length uc rfl hlt;clear hx hls hrl hm
   cases ua with
   |none=>
    obtain rfl:=hnl hc
    have hl0:l=[]:=by
     obtain ⟨a2,c2,e2,hx2⟩:=Hrl.out
     cases l with
     |nil=>rfl
     |cons y l=>
      obtain ⟨_,_,e3,_⟩:=hx2 0 y rfl;cases e2;cases e3
    subst hl0;simp only[List.length_nil]at hc1;clear hc hnl hl hbnd2 hl30
    go_wp2_with (at_builtin;first|(refine wpList_append_none rfl (.tmp 13) (.tmp 17) 86 rfl 0 88 i0 2 Tryz.underlying86 hti (.slice none 0 0) 0 [] rfl (World.ownsRow_nil _ 0 _ 2) rfl ?_)|(refine wpList_append_mine _ rfl (.tmp 12) (.tmp 19) 22 rfl 86 j0 (.slice none 0 0) 1 24 Tryz.underlying22 htj hy0 hy1 hy2 rfl (by decide) _ k ((List.range k).map vk) rfl (by exact World.ownsRow.alloc HO.out.own _) ⟨wr.heap.size,0,none⟩ 1 1 [.slice none 0 0] rfl rfl (by exact new_cells_at _ _ _ rfl) (one_row _ rfl) hbnd (by omega) ?_;intro v4 w7 hown hgr hfr _;obtain ⟨va,vb,vc,rfl⟩:=slice_of_own hown;have Hown4:=Lib.hid hown;have Hgr:=Lib.hid hgr;have Hfr:=Lib.hid hfr;clear hown hgr hfr))
    go_wp2
    go_roundw
    case rel=>
     refine ⟨k+1,_,by omega,by go_num,((Hm.out.alloc _).trans ((Mod.refl (fun x=>(Value.slice xa xb xc).ownBlock=some x) _).grown Hgr.out fun j hj _=>hj) fun x hx e=>?_),(HO.out.keep ((Mod.refl noF wr).alloc _) fun _ _ _ e=>e).push (u:=.slice none 0 0) (by simp;omega) (by rw[Hls.out];exact ⟨none,0,rfl,fun i x hi=>by simp at hi⟩) (fun g hg=>by cases hg) Hown4.out Hgr.out Hfr.out⟩
     have:=HO.out.vin x e;omega
    case measure=>simp[intOf];omega
   |some ad=>
    clear hc hnl hl;have hsrc:=Hrl.out.src;have hone:=rV_ones l 0;have hlen2:=rV_len l 0;have Hsrc:=Lib.hid hsrc;have Hone:=Lib.hid hone;have Hlen2:=Lib.hid hlen2;clear hsrc hone hlen2
    go_wp2_with (at_builtin;first|(refine wpList_append_mine _ rfl (.tmp 13) (.tmp 17) 86 rfl 88 i0 (.agg #[.string ⟨#[]⟩,.int .i64 0]) 2 24 Tryz.underlying86 hti hz0 hz1 hz2 rfl (by decide) (.slice none 0 0) 0 [] rfl (World.ownsRow_nil _ 0 _ 2) ad l.length uc (flat rV 0 l) rfl Hlen2.out Hsrc.out Hone.out hbnd2 (by omega) ?_;intro v4 w7 hown hgr hfr _;obtain ⟨ya,yb,yc,rfl⟩:=slice_of_own hown;have Hown4:=Lib.hid hown;have Hgr:=Lib.hid hgr;have Hfr:=Lib.hid hfr;have hm7:Mod noF wr w7:=(Mod.refl noF wr).trans ((Mod.refl (fun x=>(Value.slice none 0 0).ownBlock=some x) wr).grown hgr fun j hj _=>hj) (fun x hx e=>by cases e);have HO4:=Lib.hid (HO.out.keep hm7 fun _ _ _ e=>e);have Hm7:=Lib.hid hm7;clear hown hgr hfr hm7)|(refine wpList_append_mine _ rfl (.tmp 12) (.tmp 19) 22 rfl 86 j0 (.slice none 0 0) 1 24 Tryz.underlying22 htj hy0 hy1 hy2 rfl (by decide) _ k ((List.range k).map vk) rfl (by exact World.ownsRow.alloc HO4.out.own _) ⟨w7.heap.size,0,none⟩ 1 1 [.slice ya yb yc] rfl rfl (by exact new_cells_at _ _ _ rfl) (one_row _ rfl) hbnd (by omega) ?_;intro v5 w8 hown hgr hfr _;obtain ⟨za,zb,zc,rfl⟩:=slice_of_own hown;have Hown5:=Lib.hid hown;have Hgr5:=Lib.hid hgr;have Hfr5:=Lib.hid hfr;clear hown hgr hfr))
    have hs7:=Hm7.out.size
    have hrow7:RRow w7.heap.size w7 (.slice ya yb yc) l:=by
     have h:=Hown4.out;rw[List.nil_append,Nat.zero_add]at h;exact rRow_own h
    have Hrow7:=Lib.hid hrow7;clear hrow7;go_wp2
    go_roundw
    case rel=>
     refine ⟨k+1,_,by omega,by go_num,(((Hm.out.trans0 Hm7.out).alloc _).trans ((Mod.refl (fun x=>(Value.slice xa xb xc).ownBlock=some x) _).grown Hgr5.out fun j hj _=>hj) fun x hx e=>?_),(HO4.out.keep ((Mod.refl noF w7).alloc _) fun _ _ _ e=>e).push (u:=.slice ya yb yc) (by simp;omega) (by rw[Hls.out];exact (Hrow7.out.frame ((Mod.refl noF w7).alloc _) fun _ _ e=>e).mono (by simp)) (fun g hg=>?_) Hown5.out Hgr5.out Hfr5.out⟩
     ·have:=HO.out.vin x e;omega
     ·have h1:wr.heap.size≤g:=by
       rcases Hfr.out g hg with e|e
       ·cases e
       ·exact e
      have h2:=(World.ownsRow.lt Hown4.out g hg).2;refine ⟨by omega,by simp;omega,fun e=>?_⟩;have:=(World.ownsRow.lt HO.out.own g e).2;omega
    case measure=>simp[intOf];omega
  ·have hd:decide ((k:Int)<(ll.length:Int))=false:=by simp;omega
   obtain rfl:k=ll.length:=by omega
   have hfin:(List.range ll.length).map (fun i=>ll.getD i [])=ll:=by
    refine List.ext_getElem? fun i=>?_;rw[List.getElem?_map]
    by_cases h:i<ll.length
    ·rw[List.getElem?_range h,List.getElem?_eq_getElem h];simp[h]
    ·rw[List.getElem?_eq_none (by simpa using h),List.getElem?_eq_none (by omega)];rfl
   have hR:=HO.out.rin;rw[hfin]at hR;have HR:=Lib.hid hR;clear hR hfin hm;go_wp2;go_ret;exact ⟨_,rfl,Hm.out,HR.out⟩
end
section
open Go.RowKit Qs Qh Qc
variable {N:Nat}{w w':World}{v u:Value}{ll:List (List ROp)}{a:Nat→Addr}{f:Int}
theorem longB_false3{ll:List (List ROp)}(h:longB ll=false):ll.length≤10∧∀l∈ll,l.length≤30:=by
 unfold longB at h;simp only[Bool.or_eq_false_iff,decide_eq_false_iff_not]at h;refine ⟨by omega,fun l hl=>rowLong_false ?_⟩;have:=List.any_eq_false.1 h.2 l hl
 simpa using this
theorem nilOk_keep3{oa:Option Addr}{n oc:Nat}(HH:RIn N w (.slice oa n oc) ll)(hn:ll.length=n)(hnil:NilOk w (.slice oa n oc)){w1:World}(hm:Mod noF w w1):NilOk w1 (.slice oa n oc):=fun b off n' m i k c e hi hc=>by
 obtain ⟨a2,c2,e2,hx⟩:=HH;rw[hn]at e2;cases e2;cases e;obtain ⟨l,hl⟩:∃l,ll[i]?=some l:=⟨_,List.getElem?_eq_getElem (by omega)⟩;obtain ⟨b2,off2,u2,e3,hb2,hc2,-⟩:=hx i l hl;cases e3;have:=hm.cell hc2 (fun e=>e);rw[this]at hc;cases hc;exact hnil b off _ _ i k c rfl hi hc2
theorem piled_ok(w:World):Calls Tryz.prog 8 #[] w fun e w'=>e=.returned (.bool true)∧Mod noF w w':=by
 go_enter Tryz.func8,Tryz.ntmps8
 go_wp2_with fail
 refine (push_ok ⟨#[97]⟩ _ (by decide) (by decide)).mono ?_;rintro e w1 ⟨va,rfl,hma⟩;have hq1:=Mod.below hma.2.1;obtain ⟨a1,c1,rfl,-,-⟩:=hma.1.slice;have d1:decide ((0:Int)<((pushCode [97]).length:Int))=true:=rfl;have Hq1:=Lib.hid hq1;clear hma hq1
 go_wp2_with fail
 refine (pop_ok ⟨#[98]⟩ _ (by decide) (by decide)).mono ?_;rintro e w2 ⟨va,rfl,hma⟩;have hq2:=Mod.below hma.2.1;obtain ⟨a2,c2,rfl,-,-⟩:=hma.1.slice;have d2:decide ((0:Int)<((popCode [98]).length:Int))=true:=rfl;have Hq2:=Lib.hid hq2;clear hma hq2;go_wp2;go_ret;exact ⟨rfl,Hq1.out.trans0 Hq2.out⟩
theorem faultField3(c a:Int)(w:World):(Go.Instr.field 27 (.agg #[.int .i64 c,.int .i64 a]) 0).run Tryz.prog w=.ok (.int .i64 c) w:=by kernel_rfl
end
section
open Go.RowKit Qs Qh Qc
variable {N f:Nat}{w w':World}{v u:Value}{q:List (List COp)}{a:Nat→Addr}
theorem codeInfoC:(Tryz.prog.info? 71).map (fun i=>(i.zero,i.size,i.bytes))=some (some (.slice none 0 0),1,24):=by kernel_rfl
theorem gReg2_len(n t:Nat):(gReg2 n t).length=8:=rfl
structure CelS(w0:World)(T2 B S:Nat)(rv iv:Value)(rb:Nat→Nat)(regs rows:List (List Int))(w:World):Prop where
 mod:Mod noF w0 w
 base:BaseAt w B iv rv
 init:∃ib,Rws S w.heap.size w iv rows ib
 regs:Rws (B+1) S w rv regs rb
 res:w.heap[T2]?=some (.cells #[.int .i64 0,.slice none 0 0,.slice none 0 0] 32 (0,0))
 o1:w0.heap.size≤T2
 o2:T2<B
 o3:B+1≤S
 o4:S≤w.heap.size
theorem CelS.cell{w0 W:World}{T2 B S:Nat}{rv iv:Value}{rb:Nat→Nat}{regs rows:List (List Int)}(C:CelS w0 T2 B S rv iv rb regs rows w)(hM:Mod noF w W)(h64:rows.length<64)(l:List Int)(r:Nat)(hr:l.length≠0→w.heap.size≤r∧W.heap[r]?=some (.cells (l.map (Value.int .i64)).toArray 3 (0,0))) :
  Calls Tryz.prog 45 #[.pointer (some ⟨B,0,none⟩),rwU l r] W fun e w'=>e=.returned (.int .i64 ((rows.length:Int)+1))∧∃iv',CelS w0 T2 B S rv iv' rb regs (rows++[l]) w':=by
 obtain ⟨ib,R⟩:=C.init;have hsz:=hM.size;have ho:=C.o1;have ho2:=C.o2;have ho3:=C.o3;have ho4:=C.o4
 refine (cell_ok0 (lo0:=S) (Nat.le_refl _) (hM.heap C.base (fun e=>e)) (R.keep hM (fun _ _ _ e=>e)) hM.size (by omega) (by omega) h64 (fun h=>⟨by have:=(hr h).1;omega,by have:=(hr h).1;omega,.inl (hr h).1⟩) (fun h=>(hr h).2)).mono ?_;rintro e w3 ⟨rfl,iv',hB,hR,hm⟩
 have hiv:∀x,iv.ownBlock=some x→S≤x:=fun x hx=>(R.vin x hx).1;have hs3:=hm.size;refine ⟨rfl,iv',(C.mod.trans0 hM).trans hm fun x hx e=>?_,hB,hR,(C.regs.keep hM (fun _ _ _ e=>e)).keep hm fun x h1 h2 e=>?_,hm.heap (hM.heap C.res (fun e=>e)) fun e=>?_,ho,ho2,ho3,by omega⟩
 ·have:=C.mod.size
  rcases e with e|e
  ·omega
  ·have:=hiv x e;omega
 ·rcases e with e|e
  ·omega
  ·have:=hiv x e;omega
 ·rcases e with e|e
  ·omega
  ·have:=hiv _ e;omega
end
section
open Go.RowKit Qs Qh Qc
variable {N f:Nat}{w w':World}{v u:Value}{q:List (List SOp)}{a:Nat→Addr}
theorem sbuild_ok(HFB:∀(N0:Nat) (f t:Int),lowT N0→FreshH N0 True f t 2 101)(E:ErrsS w a)(HTB:TabW w)(H:RIn N w v (rawS q))(hN:N≤w.heap.size)(hc0:(kfG kPush [kPop,kFlsh] (rawS q)).1=0)(h1:1≤q.length)(h6:q.length≤6)(h20:∀l∈q,l.length≤20)(hf1:1≤f)(hf4:f≤4) :
  Calls Tryz.prog 11 #[.int .i64 f,v] w fun e w'=>∃iv rv cv vk,e=.returned (.tuple #[.agg #[.int .i64 64,iv,rv],cv,.nilIface])∧Mod noF w w'∧Qh.RowsAt w' iv (sInit f q.length)∧Qh.RowsAt w' rv (sRegs q.length)∧CodesAt w' cv (sCodes f q) vk:=by
 have hrl:(rawS q).length=q.length:=by simp[rawS]
 have hrow:∀l∈rawS q,l.length≤30:=fun l hl=>by
  obtain ⟨l',hl',rfl⟩:=List.mem_map.1 hl;have:=h20 l' hl';rw[List.length_map];omega
 have hck:=fun w1 (hm:Mod noF w w1) (g:Nat) (hg:KsAt w1 g [kPop,kFlsh])=>checkG (W:=kPush) (ks:=[kPop,kFlsh]) (E.keep hm) (H.keep hm (fun _ _ e=>e)) g hg (by decide) (by omega) hrow;have Hck:=Lib.hid hck;obtain ⟨i0,hti,hz0,hz1,hz2⟩:=info_parts codeInfoC;obtain ⟨oa,oc,rfl,hx⟩:=H;rw[hrl]at *
 have hx':∀(k:Nat) l,q[k]?=some l→∃(b:Nat) (off:Nat) (u:Value),oa.map (·.add k)=oa.map (·.add k)∧(rawS q)[k]?=some (l.map sR):=fun k l hl=>⟨0,0,.nilIface,rfl,by unfold rawS;rw[List.getElem?_map,hl];rfl⟩
 have hget:∀(k:Nat) l,q[k]?=some l→(rawS q)[k]?=some (l.map sR):=fun k l hl=>by unfold rawS;rw[List.getElem?_map,hl];rfl
 have Hx:=Lib.hid hx;have H20:=Lib.hid h20;have Hget:=Lib.hid hget;have Hc0:=Lib.hid hc0;have HFBh:=Lib.hid HFB;have HTBh:=Lib.hid HTB
 have hlow : 11 < w.heap.size:=by obtain ⟨T,fr,h⟩:=HTB;exact lt_of_block h
 have Hlow:=Lib.hid hlow;clear hlow hx h20 hx' hget hck E HTB HFB hrow hc0 hrl
 go_enter Tryz.func11,Tryz.ntmps11
 go_wp2_with fail
 have hq:=((Mod.refl noF w).alloc (.cells #[.int .i64 0,.slice none 0 0,.slice none 0 0] 32)).alloc (.cells #[.string kPop,.string kFlsh] 9)
 have hks:KsAt ((w.alloc (.cells #[.int .i64 0,.slice none 0 0,.slice none 0 0] 32)).alloc (.cells #[.string kPop,.string kFlsh] 9)) (w.heap.size+1) [kPop,kFlsh]:=fun i x hi=>by
  match i,hi with
  |0,hi=>cases hi;simp
  |1,hi=>cases hi;simp
  |i+2,hi=>simp at hi
 refine (Hck.out _ hq _ hks).mono ?_;rintro e wc ⟨ev,rfl,hEv,hmc⟩;rw[Hc0.out]at hEv;obtain rfl:=hEv.nil
 have hres:wc.heap[w.heap.size]?=some (.cells #[.int .i64 0,.slice none 0 0,.slice none 0 0] 32 (0,0)):=((Mod.refl noF _).alloc _ |>.trans0 hmc).heap (heap_alloc_new w _) (fun e=>e);have hmw:=hq.trans0 hmc
 have hszc:w.heap.size+1≤wc.heap.size:=by have:=lt_of_block hres;omega
 have Hmw:=Lib.hid hmw;have Hres:=Lib.hid hres;clear hmc hmw hres hEv hq hks
 go_wp2_with fail
 refine (newBase_ok q.length h6 wc).mono ?_;rintro e wb ⟨rv,rb,rfl,hmb,hB,R⟩;have hbs:=hmb.size;have hb1:=lt_of_block hB;have Hmb:=Lib.hid hmb;have HB:=Lib.hid hB;have HR:=Lib.hid R;clear hmb hB R
 go_wp2_with fail
 refine (grace_ok hf1 hf4 h1 h6 HB.out HR.out (by omega) (by omega) (by omega)).mono ?_;rintro e w2 ⟨rfl,iv2,ib2,hB2,R2r,R2,hm2⟩;have hs2:=hm2.size;have hm2w:=(Hmw.out.trans0 Hmb.out).trans hm2 (fun x hx e=>by omega);have hres2:=hm2.heap (Hmb.out.heap Hres.out (fun e=>e)) (fun e=>by omega)
 have hC2:CelS w w.heap.size wc.heap.size wb.heap.size rv iv2 rb (rowsF (gReg2 q.length) q.length) (rowsF (gOwnC f) q.length++[gHubC f q.length]) w2:=⟨hm2w,hB2,⟨_,R2⟩,R2r,hres2,Nat.le_refl _,by omega,by omega,hs2⟩
 have hl2:(rowsF (gOwnC f) q.length++[gHubC f q.length]).length=q.length+1:=by simp[rowsF_len]
 have HC2:=Lib.hid hC2;clear hm2w hm2 hB2 R2 R2r hres2 HR HB Hmb Hres Hmw hC2;generalize hrw:rowsF (gOwnC f) q.length++[gHubC f q.length]=rows0 at *
 go_wp2_with fail
 refine (HC2.out.cell (Mod.refl noF w2) (by omega) [] 0 (fun h=>absurd rfl h)).mono ?_;rintro e w3 ⟨he3,iv3,hC3⟩
 have e3:(rows0.length:Int)+1=(q.length:Int)+2:=by omega
 rw[e3]at he3;subst he3;have HC3:=Lib.hid hC3;clear hC3 HC2
 go_wp2_with fail
 refine (HC3.out.cell (Mod.refl noF w3) (by simp;omega) [] 0 (fun h=>absurd rfl h)).mono ?_;rintro e w4 ⟨he4,iv4,hC4⟩
 have e4:((rows0++[[]]).length:Int)+1=(q.length:Int)+3:=by simp;omega
 rw[e4]at he4;subst he4;have HC4:=Lib.hid hC4;clear hC4 HC3
 go_wp2_with fail
 refine (HC4.out.cell ((Mod.refl noF w4).alloc _) (by simp;omega) [0,(q.length:Int)+2,(q.length:Int)+3] w4.heap.size (fun _=>⟨Nat.le_refl _,heap_alloc_new w4 _⟩)).mono ?_;rintro e w6 ⟨he6,iv,hC6⟩
 have e6:((rows0++[[]]++[[]]).length:Int)+1=(q.length:Int)+4:=by simp;omega
 rw[e6]at he6;subst he6;rw[←hrw]at hC6;have HC6:=Lib.hid hC6;clear hC6 HC4 e3 e4 e6 hl2;obtain ⟨ib,R6⟩:=HC6.out.init;have ho:=HC6.out.o1;have ho2:=HC6.out.o2;have ho3:=HC6.out.o3;have ho4:=HC6.out.o4
 have hrel:BldRel w ⟨w.heap.size,wc.heap.size,wc.heap.size+1,wb.heap.size,wb.heap.size,w6.heap.size,w6.heap.size⟩ iv rv rb ib (sCs f q) (sInit f q.length) (rowsF (mixF (gRegS q.length) (gReg2 q.length) 0) q.length) 0 (.slice none 0 0) (fun _=>.nilIface) w6:=
  ⟨HC6.out.mod,Nat.le_refl _,HC6.out.res,HC6.out.base,by rw[mix_zero];exact HC6.out.regs,R6,Cds.nil _ _ _ _⟩
 obtain ⟨ra,rc,hrv,-⟩:=HC6.out.regs.cell;rw[rowsF_len]at hrv;subst hrv;obtain ⟨p,hp⟩:∃p:Plc,p=⟨w.heap.size,wc.heap.size,wc.heap.size+1,wb.heap.size,wb.heap.size,w6.heap.size,w6.heap.size⟩:=⟨_,rfl⟩
 have hP:p.Ok w:=by subst hp;exact ⟨Nat.le_refl _,by simp only;omega,by simp only;omega,by simp only;omega,Nat.le_refl _,by simp only;omega,Nat.le_refl _⟩
 rw[←hp]at hrel
 have hpB:wc.heap.size=p.B:=by rw[hp]
 have hpT:w.heap.size=p.T2:=by rw[hp]
 have HP:=Lib.hid hP;have Hrel:=Lib.hid hrel;clear hrel hP hp R6 HC6 Hck;go_wp2
 go_loopw [11,43] (fun c i wr=>∃(k:Nat) (vk:Nat→Value),k≤q.length∧i=.int .i64 k∧BldRel w p iv (.slice ra q.length rc) rb ib (sCs f q) (sInit f q.length) (rowsF (mixF (gRegS q.length) (gReg2 q.length) k) q.length) k c vk wr) (fun _ i _=>q.length - (intOf i).toNat)
 case atStart=>exact ⟨0,_,Nat.zero_le _,rfl,Hrel.out⟩
 case round=>
  generalize wr=wo at *;obtain ⟨k,vk,hk,rfl,hR⟩:=hrel;obtain ⟨ra',rc',hrv,hrx⟩:=hR.regs.cell;rw[rowsF_len]at hrv;cases hrv;obtain ⟨ca,cb,cc,rfl⟩:=slice_of_own hR.cds.own
  by_cases hlt:k<q.length
  ·have hd:decide ((k:Int)<(q.length:Int))=true:=by simp;omega
   have hki:(k:Int)<(q.length:Int):=by omega
   obtain ⟨l,hl⟩:∃l,q[k]?=some l:=⟨_,List.getElem?_eq_getElem hlt⟩;obtain ⟨b,off,u,rfl,hb,hc,hrow⟩:=Hx.out k _ (Hget.out k l hl);have hc2:=hR.mod.cell hc (fun e=>e);have hlm:(l.map sR).length=l.length:=List.length_map _;obtain ⟨ua,uc,rfl,hxx⟩:=hrow.keep hR.mod (fun _ _ e=>e)
   have hxw:∀wx,Mod noF w wx→RRow N wx (.slice ua (l.map sR).length uc) (l.map sR):=fun wx h=>hrow.keep h (fun _ _ e=>e);obtain ⟨gb,rfl,hgb,hrk⟩:=hrx k _ (mix_get hlt);obtain ⟨hR1,hrow8,hlo⟩:=hR.store (x:=(q.length:Int)+4) (j:=5) HP.out (mix_get hlt) (by rw[gReg2_len];omega)
   rw[gRegS_step,mix_set hlt]at hR1
   have b2:wo.cell? ⟨p.B,2,none⟩=some (.slice (some ⟨gb,0,none⟩) q.length rc):=by rw[cell_of_heap hR.base];rfl
   have b3:wo.cell? ⟨gb,k,none⟩=some (.slice (some ⟨rb k,0,none⟩) 8 8):=hrk
   have b4:wo.cell? ⟨rb k,5,none⟩=some (.int .i64 0):=by rw[cell_of_heap hrow8];rfl
   have b5:=free_of_heap hrow8 5;have h20l:=H20.out l (List.mem_of_getElem? hl)
   have hsz1:(wo.setCell ⟨rb k,5,none⟩ (.int .i64 ((q.length:Int)+4))).heap.size=wo.heap.size:=by simp[World.setCell]
   rw[hlm]at hc2;have HR:=Lib.hid hR;have HR1:=Lib.hid hR1;have Hxw:=Lib.hid hxw;have Hl:=Lib.hid hl;have Hsz1:=Lib.hid hsz1;clear hR hR1 hxw hl hxx hrow hc hrk hrow8 hrx hsz1;go_wp2
   go_name_world wm hwm
   have htw:TabW wm:=HTBh.out.keep (HR1.out.mod.trans0 (by rw[←hwm];exact (Mod.refl noF _).alloc _)) (fun e=>e);have Htw:=Lib.hid htw
   have hlw:lowT wo.heap.size:=by unfold lowT;have:=HR.out.mod.size;have:=Hlow.out;omega
   have Hlw:=Lib.hid hlw;clear htw
   have hM0:MkA wo.heap.size True (f:Nat) (k:Nat) 2 wm wo.heap.size (.slice none 0 0) [] 0:=by
    have hh:wm.heap[wo.heap.size]?=some (.cells #[.slice none 0 0,.int .i64 f,.int .i64 k,.int .i64 2,.int .i64 0] 101 (0,0)):=by
     rw[←hwm,←Hsz1.out];exact heap_alloc_new _ _
    exact ⟨⟨⟨by rw[cell_of_heap hh];rfl,free_of_heap hh 0,InsRow.nil _ _,(fun g h=>by cases h),lt_of_block hh⟩,by rw[cell_of_heap hh];rfl,free_of_heap hh 4⟩,by rw[cell_of_heap hh];rfl,by rw[cell_of_heap hh];rfl,by rw[cell_of_heap hh];rfl,Nat.le_refl _,(fun g h=>by cases h),Nat.le_of_lt (lt_of_block hh),fun _=>Htw.out⟩
   have hq0:Mod noF (wo.setCell ⟨rb k,5,none⟩ (.int .i64 ((q.length:Int)+4))) wm:=by rw[←hwm];exact (Mod.refl noF _).alloc _
   have hFR:FreshH wo.heap.size True (f:Nat) (k:Nat) 2 101:=HFBh.out _ _ _ Hlw.out;clear hlw;have HFR:=Lib.hid hFR;have HM0:=Lib.hid hM0;have Hq0:=Lib.hid hq0;clear hM0 hq0 hwm hFR
   go_loopw [64] (fun i wr=>∃(j:Nat) (v:Value),j≤l.length∧i=.int .i64 j∧MkA wo.heap.size True (f:Nat) (k:Nat) 2 wr wo.heap.size v (sopsCode f k 0 (l.take j)) (slabs (l.take j))∧Mod noF (wo.setCell ⟨rb k,5,none⟩ (.int .i64 ((q.length:Int)+4))) wr) (fun i _=>l.length - (intOf i).toNat)
   case atStart=>exact ⟨0,.slice none 0 0,Nat.zero_le _,rfl,HM0.out,Hq0.out⟩
   case round=>
    obtain ⟨j,v,hj,rfl,hMk,hmq⟩:=hrel
    by_cases hlj:j<l.length
    ·have hd2:decide ((j:Int)<(l.length:Int))=true:=by simp;omega
     have hji:(j:Int)<(l.length:Int):=by omega
     obtain ⟨x,hxl⟩:∃x,l[j]?=some x:=⟨_,List.getElem?_eq_getElem hlj⟩;obtain ⟨ua',uc',e',hxx⟩:=Hxw.out wr (HR1.out.mod.trans0 hmq);cases e';obtain ⟨ub,uoff,rfl,hub,h0,h1⟩:=hxx j (sR x) (by rw[List.getElem?_map,hxl];rfl);have hlen:=sopsCode_len hf4 k (l.take j) 0;have hlab:=slabs_le (l.take j)
     rw[List.length_take]at hlen hlab
     have htk:l.take (j+1)=l.take j++[x]:=by rw[List.take_add_one,hxl];rfl
     have hsn:=sopsCode_snoc f k x (l.take j) 0;have hsl:=slabs_snoc x (l.take j);rw[←htk,Nat.zero_add]at hsn;rw[←htk]at hsl
     have hcal:=sopk_any x HFR.out (fun _=>Hlw.out) hf1 hf4 (by omega) (hMk.quiet ((Mod.refl noF wr).alloc (.cells #[.string (sK x),.int .i64 (sN x)] 88))) (by omega) (by omega) (by omega);have Hcal:=Lib.hid hcal;have HMk:=Lib.hid hMk;have Hmq:=Lib.hid hmq;have Hsn:=Lib.hid hsn
     have Hsl:=Lib.hid hsl;have h0':wr.cell? ⟨ub,uoff+j*2,none⟩=some (.string (sK x)):=h0;have h1':wr.cell? ⟨ub,uoff+j*2+1,none⟩=some (.int .i64 (sN x)):=h1;clear hMk hmq hxl hxx htk hsn hsl hlen hlab hcal h0 h1;generalize hxk:sK x=xk at *;generalize hxn:sN x=xn at *
     go_wp2_with fail
     refine Hcal.out.mono ?_;rintro e wz ⟨rfl,v',hMz,hSz⟩;have HMz:=Lib.hid hMz;have HSz:=Lib.hid hSz;clear hMz hSz Hcal;go_wp2
     go_roundw
     case rel=>
      refine ⟨j+1,v',by omega,by go_num,by rw[Hsn.out,Hsl.out];exact HMz.out,((Hmq.out.alloc _).trans HSz.out.mod fun x hx e=>?_)⟩;have h9:=Hsz1.out
      rcases e with e|e
      ·omega
      ·have:=HMk.out.lv x e;omega
     case measure=>simp[intOf];omega
    ·have hd2:decide ((j:Int)<(l.length:Int))=false:=by simp;omega
     obtain rfl:j=l.length:=by omega
     rw[List.take_length]at hMk;have hlen:=sopsCode_len hf4 k l 0;have hlab:=slabs_le l;have hcal:=part3_ok HFR.out (fun _=>Hlw.out) hf1 hf4 hMk (by omega) (by omega) (by omega);have Hcal:=Lib.hid hcal;have HMk:=Lib.hid hMk;have Hmq:=Lib.hid hmq;clear hMk hmq hcal
     go_wp2_with fail
     refine Hcal.out.mono ?_;rintro e w9 ⟨rfl,v9,hM9,hS9⟩
     have hlen9:(sopsCode f k 0 l++preC (Qu.labN (slabs l+1)) (gcode f 3)).length≤2000:=by
      have:(preC (Qu.labN (slabs l+1)) (gcode f 3)).length≤70:=part_len2 hf4 (show 3<5 by decide) (slabs l);rw[List.length_append];omega
     have hm9:Mod noF (wo.setCell ⟨rb k,5,none⟩ (.int .i64 ((q.length:Int)+4))) w9:=Hmq.out.trans hS9.mod fun x hx e=>by
      have h9:=Hsz1.out
      rcases e with e|e
      ·omega
      ·have:=HMk.out.lv x e;omega
     have HM9:=Lib.hid hM9;have Hm9:=Lib.hid hm9;clear hM9 hS9 hm9 Hcal
     go_wp2_with fail
     refine (op0_chain (Chain.start HM9.out.m.emit) (by omega) 20 _ rfl).mono ?_;rintro e wz ⟨rfl,hbz,v',E,G⟩;have hS:=HR.out.size;have h9:=Hsz1.out
     have hqz:Mod noF (wo.setCell ⟨rb k,5,none⟩ (.int .i64 ((q.length:Int)+4))) wz:=Hm9.out.trans G.mod fun x hx e=>by
      rcases e with e|e
      ·omega
      ·have:=HM9.out.lv x e;omega
     have hcode:=E.row.code
     have hown:∀g,v'.ownBlock=some g→p.S≤g∧g<wz.heap.size∧(Value.slice ca cb cc).ownBlock≠some g:=fun g hg=>by
      have h10:=HM9.out.hi
      have h11:wo.heap.size≤g:=by
       rcases G.new g hg with e|e
       ·exact HM9.out.lv g e
       ·omega
      refine ⟨by omega,E.row.lt hg,fun e=>?_⟩;have:=(World.ownsRow.lt HR.out.cds.own _ e).2;omega
     obtain ⟨xa,xc,rfl,-,-⟩:=E.row.slice;have e0:=E.cell;simp only[List.length_append,List.length_singleton]at hcode hown e0
     have hcs:sCs f q k=(sopsCode f k 0 l++preC (Qu.labN (slabs l+1)) (gcode f 3))++[⟨20,0,0,0,[]⟩]:=by rw[sCs_get Hl.out];rfl
     rw[←hcs]at hcode;have HRz:=Lib.hid (HR1.out.quiet hqz);have Hcode:=Lib.hid hcode;have Hown:=Lib.hid hown
     have hszz:p.S≤wz.heap.size:=by have:=HRz.out.size;omega
     have hbnd:k+1≤maxLen:=by unfold maxLen;omega
     clear E G hcode hown hqz hcs hbz
     go_wp2_with (at_builtin;refine wpList_append_mine _ rfl (.tmp 74) (.tmp 82) 33 rfl 71 i0 (.slice none 0 0) 1 24 Tryz.underlying33 hti hz0 hz1 hz2 rfl (by decide) _ k ((List.range k).map vk) rfl (by exact World.ownsRow.alloc HRz.out.cds.own _) ⟨wz.heap.size,0,none⟩ 1 1 [.slice xa _ xc] rfl rfl (by exact new_cells_at _ _ _ (by simp)) (one_row _ rfl) hbnd (by omega) ?_;intro v4 w7 hown hgr hfr _;obtain ⟨ya,yb,yc,rfl⟩:=slice_of_own hown;have Hown4:=Lib.hid hown;have Hgr:=Lib.hid hgr;have Hfr:=Lib.hid hfr;clear hown hgr hfr)
     go_wp2
     go_roundw
     case rel=>
      exact ⟨k+1,_,by omega,by go_num,(HRz.out.quiet ((Mod.refl noF wz).alloc _)).push HP.out (Hcode.out.frame ((Mod.refl noF wz).alloc _) (fun _ _ e=>e)) (fun g hg=>⟨(Hown.out g hg).1,by have:=(Hown.out g hg).2.1;simp;omega,(Hown.out g hg).2.2⟩) Hown4.out Hgr.out Hfr.out⟩
     case measure=>simp[intOf];omega
  ·have hd:decide ((k:Int)<(q.length:Int))=false:=by simp;omega
   obtain rfl:k=q.length:=by omega
   rw[mix_all]at hR;obtain ⟨ia,ic,hiv,-⟩:=hR.init.cell
   have x0:wo.cell? ⟨p.B,0,none⟩=some (.int .i64 64):=by rw[cell_of_heap hR.base];rfl
   have x1:wo.cell? ⟨p.B,1,none⟩=some iv:=by rw[cell_of_heap hR.base];rfl
   have x2:wo.cell? ⟨p.B,2,none⟩=some (.slice ra q.length rc):=by rw[cell_of_heap hR.base];rfl
   have y0:wo.cell? ⟨p.T2,0,none⟩=some (.int .i64 0):=by rw[cell_of_heap hR.res];rfl
   have y1:wo.cell? ⟨p.T2,1,none⟩=some (.slice none 0 0):=by rw[cell_of_heap hR.res];rfl
   have y2:wo.cell? ⟨p.T2,2,none⟩=some (.slice none 0 0):=by rw[cell_of_heap hR.res];rfl
   have yf:=free_of_heap hR.res;have yf0:=yf 0;have yf1:=yf 1;have yf2:=yf 2;rw[hiv,sInit_len]at x1;have HR:=Lib.hid hR;clear hR hrx yf;go_wp2
   obtain ⟨wf,hwf⟩:∃wf,wf=(((wo.setCell ⟨p.T2,0,none⟩ (.int .i64 64)).setCell ⟨p.T2,1,none⟩ (.slice ia (q.length+4) ic)).setCell ⟨p.T2,2,none⟩ (.slice ra q.length rc)):=⟨_,rfl⟩
   have hMf:Mod (fun x=>x=p.T2) wo wf:=by rw[hwf];exact (((Mod.refl (fun x=>x=p.T2) wo).setCell (fun _=>rfl) _).setCell (fun _=>rfl) _).setCell (fun _=>rfl) _
   have hh:wf.heap[p.T2]?=some (.cells #[.int .i64 64,.slice ia (q.length+4) ic,.slice ra q.length rc] 32 (0,0)):=by
    rw[hwf,Qh.heap_setCell_same (Qh.heap_setCell_same (Qh.heap_setCell_same HR.out.res 0 _) 1 _) 2 _];rfl
   have z0:wf.cell? ⟨p.T2,0,none⟩=some (.int .i64 64):=by rw[cell_of_heap hh];rfl
   have z1:wf.cell? ⟨p.T2,1,none⟩=some (.slice ia (q.length+4) ic):=by rw[cell_of_heap hh];rfl
   have z2:wf.cell? ⟨p.T2,2,none⟩=some (.slice ra q.length rc):=by rw[cell_of_heap hh];rfl
   rw[←hwf];obtain ⟨p1,p2,p3,p4,p5,p6,p7⟩:=HP.out;refine bodyPost_ret (v:=.tuple #[.agg #[.int .i64 64,.slice ia (q.length+4) ic,.slice ra q.length rc],.slice ca cb cc,.nilIface]) (by simp[results,Tryz.results11,go_sem,z0,z1,z2]) rfl ⟨_,_,_,vk,rfl,?_,?_,?_,?_⟩
   ·exact HR.out.mod.trans hMf fun x hx e=>by omega
   ·have:=HR.out.init.keep hMf (fun x h1 h2 e=>by omega);rw[hiv,sInit_len]at this;exact this.rows (sInit_rows _ _)
   ·have:=HR.out.regs.keep hMf (fun x h1 h2 e=>by omega)
    exact this.rows (fun l hl=>by
     obtain ⟨i,-,rfl⟩:=List.mem_map.1 hl
     simp[gRegS])
   ·exact (HR.out.cds.keep hMf (fun x h1 h2 e=>by omega)).codes
end
section
open Go.RowKit Qs Qh
variable {N:Nat}{w w':World}{v u:Value}{ll:List (List ROp)}{l:List ROp}{W:ByteArray}{ks:List ByteArray}
theorem kindsG(H:RIn N w v ll)(hlen:ll.length≤10)(hrow:∀l∈ll,l.length≤30)(g:Nat)(hg:KsAt w g ks)(hkl:ks.length≤10) :
  Calls Tryz.prog 10 #[v,.string W,.slice (some ⟨g,0,none⟩) ks.length ks.length] w fun e w'=>e=.returned (.agg #[.int .i64 (kfG W ks ll).1,.int .i64 (kfG W ks ll).2])∧Mod noF w w':=by
 have hm:=many_any (H.keep ((Mod.refl noF w).alloc (.cells #[.int .i64 0,.int .i64 0] 27)) (fun _ _ e=>e)) hlen hrow;have HM:=Lib.hid hm;have HH:=Lib.hid H;obtain ⟨a,c,rfl,-⟩:=H;have Hrow:=Lib.hid hrow;have Hg:=Lib.hid hg;clear hrow hg hm
 cases hmany:manyB ll with
 |false=>
  have hk:kfG W ks ll=(2,-1):=by unfold kfG;rw[hmany];rfl
  rw[hk];rw[hmany]at HM
  go_enter Tryz.func10,Tryz.ntmps10
  go_wp2_with fail
  refine HM.out.mono ?_;rintro e w1 ⟨rfl,rfl⟩
  go_wp2_with fail
  refine (bare_ok 2 _).mono ?_;rintro e w2 ⟨rfl,hm2⟩;have Hm2:=Lib.hid hm2;have hT:=hm2.heap (heap_alloc_new w (.cells #[.int .i64 0,.int .i64 0] 27)) (fun e=>e);have t0:=cell_of_heap hT 0;have t1:=cell_of_heap hT 1;have tf0:=free_of_heap hT 0
  have tf1:=free_of_heap hT 1;have HT:=Lib.hid hT;clear hT;replace t0:w2.cell? ⟨w.heap.size,0,none⟩=some (.int .i64 0):=t0;replace t1:w2.cell? ⟨w.heap.size,1,none⟩=some (.int .i64 0):=t1;go_wp2
  obtain ⟨wf,hwf⟩:∃wf,wf=(w2.setCell ⟨w.heap.size,0,none⟩ (.int .i64 2)).setCell ⟨w.heap.size,1,none⟩ (.int .i64 (-1)):=⟨_,rfl⟩
  have hh:wf.heap[w.heap.size]?=some (.cells #[.int .i64 2,.int .i64 (-1)] 27 (0,0)):=by rw[hwf,Qh.heap_setCell_same (Qh.heap_setCell_same HT.out 0 _) 1 _];rfl
  have z0:wf.cell? ⟨w.heap.size,0,none⟩=some (.int .i64 2):=by rw[cell_of_heap hh];rfl
  have z1:wf.cell? ⟨w.heap.size,1,none⟩=some (.int .i64 (-1)):=by rw[cell_of_heap hh];rfl
  have hMf:Mod noF w wf:=by rw[hwf];exact (((Mod.refl noF w).alloc _).trans0 Hm2.out).trans (((Mod.refl (fun x=>x=w.heap.size) _).setCell (fun _=>rfl) _).setCell (fun _=>rfl) _) fun x hx e=>by omega
  rw[←hwf];exact bodyPost_ret (v:=.agg #[.int .i64 2,.int .i64 (-1)]) (by simp[results,Tryz.results10,go_sem,z0,z1]) rfl ⟨rfl,hMf⟩
 |true=>
  have hk:kfG W ks ll=allR (rowG W ks) 0 ll:=by unfold kfG;rw[hmany];rfl
  rw[hk];rw[hmany]at HM;clear hk hmany;obtain ⟨rc,ra,hres0⟩:∃rc ra,allR (rowG W ks) 0 ll=(rc,ra):=⟨_,_,rfl⟩;rw[hres0];have Hres0:=Lib.hid hres0;simp only;clear hres0;have e3:=str_eq W
  go_enter Tryz.func10,Tryz.ntmps10
  go_wp2_with fail
  refine HM.out.mono ?_;rintro e w1 ⟨rfl,rfl⟩;go_wp2
  go_loopw [8] (fun i wr=>∃k:Nat,k≤ll.length∧i=.int .i64 k∧Mod noF w wr∧wr.heap[w.heap.size]?=some (.cells #[.int .i64 0,.int .i64 0] 27 (0,0))∧∀(j:Nat) y,j<k→ll[j]?=some y→rowG W ks y=none) (fun i _=>ll.length - (intOf i).toNat)
  case atStart=>exact ⟨0,Nat.zero_le _,rfl,(Mod.refl _ _).alloc _,heap_alloc_new w _,fun j y h=>by omega⟩
  case round=>
   generalize wr=w2 at *;obtain ⟨k,hk,rfl,hm,hT0,hall⟩:=hrel;have Hm:=Lib.hid hm;have HT0:=Lib.hid hT0;have Hall:=Lib.hid hall;clear hT0 hall
   by_cases hlt:k<ll.length
   ·have hd:decide ((k:Int)<(ll.length:Int))=true:=by simp;omega
    have hki:(k:Int)<(ll.length:Int):=by omega
    obtain ⟨l,hl⟩:∃l,ll[k]?=some l:=⟨_,List.getElem?_eq_getElem hlt⟩;obtain ⟨a',c',e',hx⟩:=HH.out;cases e';obtain ⟨b,off,u,rfl,hb,hc,⟨ua,uc,rfl,hxx⟩⟩:=hx k l hl;have Hc:=Lib.hid hc;have Hxx:=Lib.hid hxx;have Hl:=Lib.hid hl;have h30:=Hrow.out l (List.mem_of_getElem? hl);clear hx hxx hl hc hm;go_wp2
    go_loopw [9] (fun i wr=>∃q:Nat,q≤l.length∧i=.int .i64 q∧Mod noF w wr∧wr.heap[w.heap.size]?=some (.cells #[.int .i64 0,.int .i64 0] 27 (0,0))∧∀(j:Nat) y,j<q→l[j]?=some y→kfOpG W ks y=0) (fun i _=>l.length - (intOf i).toNat)
    case atStart=>exact ⟨0,Nat.zero_le _,rfl,Hm.out,HT0.out,fun j y h=>by omega⟩
    case round=>
     generalize wr=w3 at *;obtain ⟨q,hq,rfl,hm3,hT3,hall3⟩:=hrel;have hc3:=hm3.cell Hc.out (fun e=>e);have Hm3:=Lib.hid hm3;have HT3:=Lib.hid hT3;have Hall3:=Lib.hid hall3;clear hT3 hall3
     by_cases hltq:q<l.length
     ·have hd2:decide ((q:Int)<(l.length:Int))=true:=by simp;omega
      have hqi:(q:Int)<(l.length:Int):=by omega
      obtain ⟨x,hxl⟩:∃x,l[q]?=some x:=⟨_,List.getElem?_eq_getElem hltq⟩;obtain ⟨ub,uoff,rfl,hub,h0,h1⟩:=Hxx.out q x hxl;have h0:=hm3.cell h0 (fun e=>e);have h1:=hm3.cell h1 (fun e=>e);have Hxl:=Lib.hid hxl;clear hxl hm3;obtain ⟨xs,xn⟩:=x;simp only at h0 h1
      have hmx:Mod noF w (w3.alloc (.cells #[.string xs,.int .i64 xn] 88)):=Hm3.out.alloc _;have hg3:=Hg.out.keep hmx (fun e=>e);have hTx:=((Mod.refl noF w3).alloc (.cells #[.string xs,.int .i64 xn] 88)).heap HT3.out (fun e=>e);have Hmx:=Lib.hid hmx
      have HTx:=Lib.hid hTx;have Hg3:=Lib.hid hg3;clear hmx hTx hg3
      by_cases hput:xs=W
      ·subst hput
       by_cases hbad:xn<1∨1000<xn
       ·have hf:kfOpG xs ks (xs,xn)=2:=by unfold kfOpG;simp[hbad]
        have hrF:=rowG_at l q _ Hxl.out Hall3.out (by rw[hf];decide);rw[hf]at hrF;have hres:=allR_at ll 0 k l 2 Hl.out Hall.out hrF;rw[Nat.zero_add]at hres;obtain ⟨rfl,rfl⟩:=Prod.mk.inj (Hres0.out.symm.trans hres);clear hres hrF hf
        by_cases hb1:xn<1
        ·have d1:decide (xn<1)=true:=by simpa using hb1
         have hT:=HTx.out;have t0:=cell_of_heap hT 0;have t1:=cell_of_heap hT 1;have tf0:=free_of_heap hT 0;have tf1:=free_of_heap hT 1;have HT:=Lib.hid hT;clear hT;replace t0:(w3.alloc (.cells #[.string xs,.int .i64 xn] 88)).cell? ⟨w.heap.size,0,none⟩=some (.int .i64 0):=t0
         replace t1:(w3.alloc (.cells #[.string xs,.int .i64 xn] 88)).cell? ⟨w.heap.size,1,none⟩=some (.int .i64 0):=t1;go_wp2
         obtain ⟨wf,hwf⟩:∃wf,wf=((w3.alloc (.cells #[.string xs,.int .i64 xn] 88)).setCell ⟨w.heap.size,0,none⟩ (.int .i64 2)).setCell ⟨w.heap.size,1,none⟩ (.int .i64 k):=⟨_,rfl⟩
         have hh:wf.heap[w.heap.size]?=some (.cells #[.int .i64 2,.int .i64 k] 27 (0,0)):=by rw[hwf,Qh.heap_setCell_same (Qh.heap_setCell_same HT.out 0 _) 1 _];rfl
         have z0:wf.cell? ⟨w.heap.size,0,none⟩=some (.int .i64 2):=by rw[cell_of_heap hh];rfl
         have z1:wf.cell? ⟨w.heap.size,1,none⟩=some (.int .i64 k):=by rw[cell_of_heap hh];rfl
         have hMf:Mod noF w wf:=by rw[hwf];exact (Hmx.out).trans (((Mod.refl (fun x=>x=w.heap.size) _).setCell (fun _=>rfl) _).setCell (fun _=>rfl) _) fun x hx e=>by omega
         rw[←hwf];exact bodyPost_ret (v:=.agg #[.int .i64 2,.int .i64 k]) (by simp[results,Tryz.results10,go_sem,z0,z1]) rfl ⟨rfl,hMf⟩
        ·have d1:decide (xn<1)=false:=by simpa using hb1
         have d2:decide (1000<xn)=true:=by simp;omega
         have hT:=HTx.out;have t0:=cell_of_heap hT 0;have t1:=cell_of_heap hT 1;have tf0:=free_of_heap hT 0;have tf1:=free_of_heap hT 1;have HT:=Lib.hid hT;clear hT;replace t0:(w3.alloc (.cells #[.string xs,.int .i64 xn] 88)).cell? ⟨w.heap.size,0,none⟩=some (.int .i64 0):=t0
         replace t1:(w3.alloc (.cells #[.string xs,.int .i64 xn] 88)).cell? ⟨w.heap.size,1,none⟩=some (.int .i64 0):=t1;go_wp2
         obtain ⟨wf,hwf⟩:∃wf,wf=((w3.alloc (.cells #[.string xs,.int .i64 xn] 88)).setCell ⟨w.heap.size,0,none⟩ (.int .i64 2)).setCell ⟨w.heap.size,1,none⟩ (.int .i64 k):=⟨_,rfl⟩
         have hh:wf.heap[w.heap.size]?=some (.cells #[.int .i64 2,.int .i64 k] 27 (0,0)):=by rw[hwf,Qh.heap_setCell_same (Qh.heap_setCell_same HT.out 0 _) 1 _];rfl
         have z0:wf.cell? ⟨w.heap.size,0,none⟩=some (.int .i64 2):=by rw[cell_of_heap hh];rfl
         have z1:wf.cell? ⟨w.heap.size,1,none⟩=some (.int .i64 k):=by rw[cell_of_heap hh];rfl
         have hMf:Mod noF w wf:=by rw[hwf];exact (Hmx.out).trans (((Mod.refl (fun x=>x=w.heap.size) _).setCell (fun _=>rfl) _).setCell (fun _=>rfl) _) fun x hx e=>by omega
         rw[←hwf];exact bodyPost_ret (v:=.agg #[.int .i64 2,.int .i64 k]) (by simp[results,Tryz.results10,go_sem,z0,z1]) rfl ⟨rfl,hMf⟩
       ·have d1:decide (xn<1)=false:=by simp;omega
        have d2:decide (1000<xn)=false:=by simp;omega
        have hf:kfOpG xs ks (xs,xn)=0:=by unfold kfOpG;simp[hbad]
        have Hf:=Lib.hid hf;clear hf;go_wp2
        go_roundw
        case rel=>
         refine ⟨q+1,by omega,by go_num,Hmx.out,HTx.out,fun j y hj hy=>?_⟩
         by_cases e:j=q
         ·subst e;rw[Hxl.out]at hy;cases hy;exact Hf.out
         ·exact Hall3.out j y (by omega) hy
        case measure=>simp[intOf];omega
      ·have ep:(xs.toList==W.toList)=false:=str_ne hput;go_wp2
       go_loopw [11,12] (fun b i wr=>∃z:Nat,z≤ks.length∧i=.int .i64 z∧b=.bool (memK (ks.take z) xs)∧Mod noF (w3.alloc (.cells #[.string xs,.int .i64 xn] 88)) wr) (fun _ i _=>ks.length - (intOf i).toNat)
       case atStart=>exact ⟨0,Nat.zero_le _,rfl,rfl,Mod.refl _ _⟩
       case round=>
        generalize wr=w4 at *;obtain ⟨z,hz,rfl,rfl,hm4⟩:=hrel;have o0:w4.cell? ⟨w3.heap.size,0,none⟩=some (.string xs):=hm4.cell (show (w3.alloc (.cells #[.string xs,.int .i64 xn] 88)).cell? ⟨w3.heap.size,0,none⟩=some (.string xs) by simp) (fun e=>e)
        have o1:w4.cell? ⟨w3.heap.size,1,none⟩=some (.int .i64 xn):=hm4.cell (show (w3.alloc (.cells #[.string xs,.int .i64 xn] 88)).cell? ⟨w3.heap.size,1,none⟩=some (.int .i64 xn) by simp) (fun e=>e);have Hm4:=Lib.hid hm4
        by_cases hzl:z<ks.length
        ·have hdz:decide ((z:Int)<(ks.length:Int))=true:=by simp;omega
         have hzi:(z:Int)<(ks.length:Int):=by omega
         obtain ⟨y,hy⟩:∃y,ks[z]?=some y:=⟨_,List.getElem?_eq_getElem hzl⟩;have hyc:=hm4.cell (Hg3.out z y hy) (fun e=>e)
         have htk:ks.take (z+1)=ks.take z++[y]:=by rw[List.take_add_one,hy];rfl
         have Htk:=Lib.hid htk;clear hm4 hy htk
         by_cases hxy:y=xs
         ·subst hxy;have ey:=str_eq y;generalize hb0:memK (ks.take z) y=b0 at *;go_wp2
          go_quiet (fail)
          go_wp2
          go_roundw
          case rel=>exact ⟨z+1,by omega,by go_num,by rw[Htk.out,memK_snoc];simp,Hm4.out.drewN _⟩
          case measure=>simp[intOf];omega
         ·have ey:(y.toList==xs.toList)=false:=str_ne hxy
          have hb1:memK (ks.take (z+1)) xs=memK (ks.take z) xs:=by
           rw[Htk.out,memK_snoc];simp[hxy]
          have Hb1:=Lib.hid hb1;clear hb1;generalize hb0:memK (ks.take z) xs=b0 at *;go_wp2
          go_quiet (fail)
          go_wp2
          go_roundw
          case rel=>exact ⟨z+1,by omega,by go_num,by rw[Hb1.out],Hm4.out.drewN _⟩
          case measure=>simp[intOf];omega
        ·have hdz:decide ((z:Int)<(ks.length:Int))=false:=by simp;omega
         obtain rfl:z=ks.length:=by omega
         rw[List.take_length];clear hm4
         cases hmem:memK ks xs with
         |true=>
          by_cases hx0:xn=0
          ·subst hx0
           have hf:kfOpG W ks (xs,0)=0:=by unfold kfOpG;rw[if_neg hput];simp[hmem]
           have Hf:=Lib.hid hf;clear hf hmem;go_wp2
           go_roundw
           case rel=>
            refine ⟨q+1,by omega,by go_num,Hmx.out.trans0 Hm4.out,Hm4.out.heap HTx.out (fun e=>e),fun j y hj hy=>?_⟩
            by_cases e:j=q
            ·subst e;rw[Hxl.out]at hy;cases hy;exact Hf.out
            ·exact Hall3.out j y (by omega) hy
           case measure=>simp[intOf];omega
          ·have hf:kfOpG W ks (xs,xn)=3:=by unfold kfOpG;rw[if_neg hput];simp[hx0]
           have n1:decide (xn=0)=false:=by simpa using hx0
           have n2:(xn==0)=false:=by simpa using hx0
           have hrF:=rowG_at l q _ Hxl.out Hall3.out (by rw[hf];decide);rw[hf]at hrF;have hres:=allR_at ll 0 k l 3 Hl.out Hall.out hrF;rw[Nat.zero_add]at hres;obtain ⟨rfl,rfl⟩:=Prod.mk.inj (Hres0.out.symm.trans hres);clear hres hrF hf;have hT:=Hm4.out.heap HTx.out (fun e=>e)
           have t0:=cell_of_heap hT 0;have t1:=cell_of_heap hT 1;have tf0:=free_of_heap hT 0;have tf1:=free_of_heap hT 1;have HT:=Lib.hid hT;clear hT;replace t0:w4.cell? ⟨w.heap.size,0,none⟩=some (.int .i64 0):=t0;replace t1:w4.cell? ⟨w.heap.size,1,none⟩=some (.int .i64 0):=t1;go_wp2
           obtain ⟨wf,hwf⟩:∃wf,wf=(w4.setCell ⟨w.heap.size,0,none⟩ (.int .i64 3)).setCell ⟨w.heap.size,1,none⟩ (.int .i64 k):=⟨_,rfl⟩
           have hh:wf.heap[w.heap.size]?=some (.cells #[.int .i64 3,.int .i64 k] 27 (0,0)):=by rw[hwf,Qh.heap_setCell_same (Qh.heap_setCell_same HT.out 0 _) 1 _];rfl
           have z0:wf.cell? ⟨w.heap.size,0,none⟩=some (.int .i64 3):=by rw[cell_of_heap hh];rfl
           have z1:wf.cell? ⟨w.heap.size,1,none⟩=some (.int .i64 k):=by rw[cell_of_heap hh];rfl
           have hMf:Mod noF w wf:=by rw[hwf];exact (Hmx.out.trans0 Hm4.out).trans (((Mod.refl (fun x=>x=w.heap.size) _).setCell (fun _=>rfl) _).setCell (fun _=>rfl) _) fun x hx e=>by omega
           rw[←hwf];exact bodyPost_ret (v:=.agg #[.int .i64 3,.int .i64 k]) (by simp[results,Tryz.results10,go_sem,z0,z1]) rfl ⟨rfl,hMf⟩
         |false=>
          have hf:kfOpG W ks (xs,xn)=3:=by unfold kfOpG;rw[if_neg hput];simp[hmem]
          have hrF:=rowG_at l q _ Hxl.out Hall3.out (by rw[hf];decide);rw[hf]at hrF;have hres:=allR_at ll 0 k l 3 Hl.out Hall.out hrF;rw[Nat.zero_add]at hres;obtain ⟨rfl,rfl⟩:=Prod.mk.inj (Hres0.out.symm.trans hres);clear hres hrF hf;have hT:=Hm4.out.heap HTx.out (fun e=>e)
          have t0:=cell_of_heap hT 0;have t1:=cell_of_heap hT 1;have tf0:=free_of_heap hT 0;have tf1:=free_of_heap hT 1;have HT:=Lib.hid hT;clear hT;replace t0:w4.cell? ⟨w.heap.size,0,none⟩=some (.int .i64 0):=t0;replace t1:w4.cell? ⟨w.heap.size,1,none⟩=some (.int .i64 0):=t1;go_wp2
          obtain ⟨wf,hwf⟩:∃wf,wf=(w4.setCell ⟨w.heap.size,0,none⟩ (.int .i64 3)).setCell ⟨w.heap.size,1,none⟩ (.int .i64 k):=⟨_,rfl⟩
          have hh:wf.heap[w.heap.size]?=some (.cells #[.int .i64 3,.int .i64 k] 27 (0,0)):=by rw[hwf,Qh.heap_setCell_same (Qh.heap_setCell_same HT.out 0 _) 1 _];rfl
          have z0:wf.cell? ⟨w.heap.size,0,none⟩=some (.int .i64 3):=by rw[cell_of_heap hh];rfl
          have z1:wf.cell? ⟨w.heap.size,1,none⟩=some (.int .i64 k):=by rw[cell_of_heap hh];rfl
          have hMf:Mod noF w wf:=by rw[hwf];exact (Hmx.out.trans0 Hm4.out).trans (((Mod.refl (fun x=>x=w.heap.size) _).setCell (fun _=>rfl) _).setCell (fun _=>rfl) _) fun x hx e=>by omega
          rw[←hwf];exact bodyPost_ret (v:=.agg #[.int .i64 3,.int .i64 k]) (by simp[results,Tryz.results10,go_sem,z0,z1]) rfl ⟨rfl,hMf⟩
     ·have hd2:decide ((q:Int)<(l.length:Int))=false:=by simp;omega
      have hrF:rowG W ks l=none:=rowG_none fun j y hj=>Hall3.out j y (by have:=(List.getElem?_eq_some_iff.1 hj).1;omega) hj;have HrF:=Lib.hid hrF;clear hrF hm3;go_wp2
      go_roundw
      case rel=>
       refine ⟨k+1,by omega,by go_num,Hm3.out,HT3.out,fun j y hj hy=>?_⟩
       by_cases e:j=k
       ·subst e;rw[Hl.out]at hy;cases hy;exact HrF.out
       ·exact Hall.out j y (by omega) hy
      case measure=>simp[intOf];omega
   ·have hd:decide ((k:Int)<(ll.length:Int))=false:=by simp;omega
    have hres:=allR_none (rf:=rowG W ks) ll 0 fun j y hj=>Hall.out j y (by have:=(List.getElem?_eq_some_iff.1 hj).1;omega) hj;obtain ⟨rfl,rfl⟩:=Prod.mk.inj (Hres0.out.symm.trans hres);clear hres hm
    go_wp2_with fail
    refine (fine_ok _).mono ?_;rintro e w3 ⟨rfl,hm3⟩;have Hm3:=Lib.hid hm3;have hT:=hm3.heap HT0.out (fun e=>e);have t0:=cell_of_heap hT 0;have t1:=cell_of_heap hT 1;have tf0:=free_of_heap hT 0;have tf1:=free_of_heap hT 1;have HT:=Lib.hid hT;clear hT
    replace t0:w3.cell? ⟨w.heap.size,0,none⟩=some (.int .i64 0):=t0;replace t1:w3.cell? ⟨w.heap.size,1,none⟩=some (.int .i64 0):=t1;go_wp2;obtain ⟨wf,hwf⟩:∃wf,wf=(w3.setCell ⟨w.heap.size,0,none⟩ (.int .i64 0)).setCell ⟨w.heap.size,1,none⟩ (.int .i64 (-1)):=⟨_,rfl⟩
    have hh:wf.heap[w.heap.size]?=some (.cells #[.int .i64 0,.int .i64 (-1)] 27 (0,0)):=by rw[hwf,Qh.heap_setCell_same (Qh.heap_setCell_same HT.out 0 _) 1 _];rfl
    have z0:wf.cell? ⟨w.heap.size,0,none⟩=some (.int .i64 0):=by rw[cell_of_heap hh];rfl
    have z1:wf.cell? ⟨w.heap.size,1,none⟩=some (.int .i64 (-1)):=by rw[cell_of_heap hh];rfl
    have hMf:Mod noF w wf:=by rw[hwf];exact (Hm.out.trans0 Hm3.out).trans (((Mod.refl (fun x=>x=w.heap.size) _).setCell (fun _=>rfl) _).setCell (fun _=>rfl) _) fun x hx e=>by omega
    rw[←hwf];exact bodyPost_ret (v:=.agg #[.int .i64 0,.int .i64 (-1)]) (by simp[results,Tryz.results10,go_sem,z0,z1]) rfl ⟨rfl,hMf⟩
end
section
open Go.ChangeShapes Go.WideShapes Go.ChangeAt Go.RowKit Qh
def opVals(x:ROp):List Value:=[.string x.1,.int .i64 x.2]
theorem opLen2{l:List Value}(h:l.length=2):∃c0 c1:Value,l=[c0,c1]:=by
 match l,h with
 |[c0,c1],_=>exact ⟨c0,c1,rfl⟩
theorem Op_read{H:Type}{enc:TypeId × Value→H}{W:World}(n:Nat)(cs:List Value)(y:DataW H × List MemPlace)(h:DataW.trod enc Tryz.prog W 0 (fun _=>true) true n 88 cs=some y):∃x:ROp,cs=opVals x∧True:=by
 obtain ⟨xs,n',rfl,_,hlen,hxl,hf⟩:=DataW.trod_struct Tryz.underlying88 h;rw[show Tryz.prog.cellsOf 88 = 2 by kernel_rfl]at hlen
 have k1 : Tryz.prog.cellsOf 3 = 1:=by kernel_rfl
 have k9 : Tryz.prog.cellsOf 9 = 1:=by kernel_rfl
 obtain ⟨c0,c1,rfl⟩:=opLen2 hlen;have h0 := hf 0 ⟨"Kind", 9, 0, false, "", "", 0⟩ rfl;rw[List.getElem?_eq_getElem (show 0<xs.length by rw[hxl];decide)]at h0;obtain ⟨s0,e0,_,o0⟩:=DataW.trod_string Tryz.underlying9 h0
 simp only[k9,List.drop_succ_cons,List.drop_zero,List.take_succ_cons,List.take_zero,List.cons.injEq,and_true]at e0;subst e0;have h1 := hf 1 ⟨"N", 3, 1, false, "", "", 16⟩ rfl;rw[List.getElem?_eq_getElem (show 1<xs.length by rw[hxl];decide)]at h1
 obtain ⟨s1,e1,_,o1⟩:=DataW.trod_int Tryz.underlying3 h1;simp only[k1,List.drop_succ_cons,List.drop_zero,List.take_succ_cons,List.take_zero,List.cons.injEq,and_true]at e1;subst e1;exact ⟨⟨s0,s1⟩,rfl,trivial⟩
def OpsOk(W:World)(u:Value):Prop:=∃a l c z,u=.slice a l c∧RowsAt opVals 2 W (.slice a l c) z
theorem Row_read{H:Type}{enc:TypeId × Value→H}{W:World}(n:Nat)(cs:List Value)(y:DataW H × List MemPlace)(h:DataW.trod enc Tryz.prog W 0 (fun _=>true) true n 86 cs=some y):∃u:Value,cs=[u]∧OpsOk W u:=by
 rcases Go.Deep.open_slice Tryz.underlying86 h with ⟨hcs,_⟩|⟨A,l,c,m,n',D,Pl,hcs,_,hl,hm,hmm,_,hel⟩
 ·exact ⟨.slice none 0 0,hcs,none,0,0,[],rfl,none,0,rfl,by simp,by simp,fun _=>rfl,fun i x h=>by simp at h⟩
 ·subst hcs;obtain ⟨z,hz,_⟩:=rowsAt_of (k:=2) (vals:=opVals) (good:=fun _=>True) (a:=some A) (len:=l) (cap:=c) (by decide) Tryz.underlying86 (by kernel_rfl) Op_read (⟨n,h⟩:DataW.Trod enc Tryz.prog W 0 (fun _=>true) true 86 (.slice (some A) l c) y.1 y.2)
  exact ⟨_,rfl,_,_,_,z,rfl,hz⟩
def IsOps(w:World)(a:Option Addr)(len cap:Nat)(z:List (List ROp)):Prop:=
 RIn w.heap.size w (.slice a len cap) z∧NilOk w (.slice a len cap)∧z.length≤maxLen∧∀l∈z,l.length≤maxLen
theorem isOps_of{H:Type}{enc:TypeId × Value→H}{W:World}{a:Option Addr}{len cap:Nat}{d:DataW H}{p:List MemPlace}(h:DataW.Trod enc Tryz.prog W 0 (fun _=>true) true 22 (.slice a len cap) d p):∃z,IsOps W a len cap z:=by
 obtain ⟨us,⟨a',c',e',hlc,hcm,hn,hx⟩,hg⟩:=rowsAt_of (k:=1) (vals:=fun u:Value=>[u]) (good:=OpsOk W) (by decide) Tryz.underlying22 (by kernel_rfl) Row_read h;cases e'
 have hch:∀u,∃z:List ROp,u∈us→∃a l c,u=.slice a l c∧RowsAt opVals 2 W (.slice a l c) z:=fun u=>by
  by_cases hu:u∈us
  ·obtain ⟨a,l,c,z,e,hz⟩:=hg u hu;exact ⟨z,fun _=>⟨a,l,c,e,hz⟩⟩
  ·exact ⟨[],fun h=>absurd h hu⟩
 let f:=fun u=>Classical.choose (hch u)
 have hf:∀u∈us,∃a l c,u=.slice a l c∧RowsAt opVals 2 W (.slice a l c) (f u):=fun u hu=>Classical.choose_spec (hch u) hu
 have hat:∀(i:Nat) u,us[i]?=some u→∃b off,a=some ⟨b,off,none⟩∧b<W.heap.size∧W.cell? ⟨b,off+i,none⟩=some u:=fun i u hi=>by
  obtain ⟨b,off,e,hb,hc⟩:=hx i u hi;refine ⟨b,off,e,hb,?_⟩;have:=hc 0 u rfl;rw[show off+i*1+0=off+i by omega]at this;exact this
 refine ⟨us.map f,⟨a,cap,by rw[List.length_map],fun i l hi=>?_⟩,fun b off n m i k c e hi hc=>?_,by rw[List.length_map];omega,fun l hl=>?_⟩
 ·rw[List.getElem?_map]at hi;obtain ⟨u,hu,rfl⟩:=Option.map_eq_some_iff.1 hi;obtain ⟨b,off,e,hb,hc⟩:=hat i u hu;obtain ⟨ua,ul,uc,rfl,a2,c2,e2,h1,h2,h3,hxx⟩:=hf u (List.mem_of_getElem? hu);refine ⟨b,off,_,e,hb,hc,a2,c2,e2,fun j x hj=>?_⟩;obtain ⟨b2,off2,e3,hb2,hc2⟩:=hxx j x hj
  exact ⟨b2,off2,e3,hb2,hc2 0 _ rfl,hc2 1 _ rfl⟩
 ·cases e;obtain ⟨u,hu⟩:∃u,us[i]?=some u:=⟨_,List.getElem?_eq_getElem hi⟩;obtain ⟨b2,off2,e,hb,hc'⟩:=hat i u hu;cases e;rw[hc]at hc';cases hc';obtain ⟨ua,ul,uc,e1,a2,c2,e2,h1,h2,h3,hxx⟩:=hf _ (List.mem_of_getElem? hu);cases e1;have e3:=e2;simp only[Value.slice.injEq]at e3
  exact e3.2.2.trans (h3 e3.1.symm)
 ·obtain ⟨u,hu,rfl⟩:=List.mem_map.1 hl;obtain ⟨ua,ul,uc,rfl,a2,c2,e2,h1,h2,h3,hxx⟩:=hf u hu;omega
end
section
open Go.RowKit Qs Qh Qc Qg
variable {N:Nat}{w w':World}{v vs:Value}{ll:List (List ROp)}{a:Nat→Addr}{f:Nat}{q:List (List SOp)}{l:List Int}
theorem ks1(w:World):KsAt (w.alloc (.cells #[.string kPop,.string kFlsh] 9)) w.heap.size [kPop,kFlsh]:=fun i x hi=>by
 match i,hi with
 |0,hi=>cases hi;simp
 |1,hi=>cases hi;simp
 |i+2,hi=>simp at hi
theorem own_len{w:World}{b:Nat}{e:TypeId}{size:Nat}{a:Option Addr}{n c k:Nat}{xs:List Value}(h:w.ownsRow b e size (.slice a n c) k xs):n=k:=by
 rcases h.2 with ⟨e1,h0⟩|⟨_,_,_,e1,_⟩
 ·cases e1;exact h0.symm
 ·cases e1;rfl
theorem within_of{a b:List Int}(h:∀v,a.count v≤b.count v):withinB a b=true:=by
 unfold withinB;rw[List.all_eq_true];intro x _
 simpa using h x
theorem ssf_out{f:Int}(H:RIn N w v ll)(hll:ll.length≤maxLen)(hrl:∀l∈ll,l.length≤maxLen)(Hs:IntsAt w vs l)(hg:¬(longB ll=false∧l.length≤3000∧1≤f∧f≤4)) :
  Calls Tryz.prog 3 #[.int .i64 f,v,vs] w fun e w'=>e=.returned (.bool true)∧Mod noF w w':=by
 have hlg:=fun w' (hm:Mod noF w w')=>long_any (H.keep hm (fun _ _ e=>e)) hll hrl;have Hlg:=Lib.hid hlg;obtain ⟨oa,oc,rfl,-⟩:=H;obtain ⟨sa,sc,rfl,hcm,-⟩:=Hs.at_;clear hlg hrl Hs
 cases hL:longB ll with
 |true=>
  rw[hL]at Hlg
  go_enter Tryz.func3,Tryz.ntmps3
  go_wp2_with fail
  refine (piled_ok _).mono ?_;rintro e w1 ⟨rfl,hm1⟩;have Hm1:=Lib.hid hm1;clear hm1
  go_wp2_with fail
  refine (Hlg.out _ Hm1.out).mono ?_;rintro e w1 ⟨rfl,rfl⟩;go_wp2;go_ret;exact ⟨rfl,Hm1.out⟩
 |false=>
  rw[hL]at Hlg;have hg':¬(l.length≤3000∧1≤f∧f≤4):=fun e=>hg ⟨by first|rfl|exact hL,e⟩
  by_cases g1:3000<l.length
  ·have d1:decide ((3000:Int)<(l.length:Int))=true:=by simp;omega
   go_enter Tryz.func3,Tryz.ntmps3
   go_wp2_with fail
   refine (piled_ok _).mono ?_;rintro e w1 ⟨rfl,hm1⟩;have Hm1:=Lib.hid hm1;clear hm1
   go_wp2_with fail
   refine (Hlg.out _ Hm1.out).mono ?_;rintro e w1 ⟨rfl,rfl⟩;go_wp2;go_ret;exact ⟨rfl,Hm1.out⟩
  ·have d1:decide ((3000:Int)<(l.length:Int))=false:=by simp;omega
   by_cases g2:f<1
   ·have d2:decide (f<1)=true:=by simp;omega
    go_enter Tryz.func3,Tryz.ntmps3
    go_wp2_with fail
    refine (piled_ok _).mono ?_;rintro e w1 ⟨rfl,hm1⟩;have Hm1:=Lib.hid hm1;clear hm1
    go_wp2_with fail
    refine (Hlg.out _ Hm1.out).mono ?_;rintro e w1 ⟨rfl,rfl⟩;go_wp2;go_ret;exact ⟨rfl,Hm1.out⟩
   ·have d2:decide (f<1)=false:=by simp;omega
    have d3:decide ((4:Int)<f)=true:=by simp;omega
    go_enter Tryz.func3,Tryz.ntmps3
    go_wp2_with fail
    refine (piled_ok _).mono ?_;rintro e w1 ⟨rfl,hm1⟩;have Hm1:=Lib.hid hm1;clear hm1
    go_wp2_with fail
    refine (Hlg.out _ Hm1.out).mono ?_;rintro e w1 ⟨rfl,rfl⟩;go_wp2;go_ret;exact ⟨rfl,Hm1.out⟩
theorem ssf_bad(H:RIn N w v ll)(hL:longB ll=false)(Hs:IntsAt w vs l)(hl:l.length≤3000)(hf1:1≤f)(hf4:f≤4)(hk:(kfG kPush [kPop,kFlsh] ll).1≠0) :
  Calls Tryz.prog 3 #[.int .i64 f,v,vs] w fun e w'=>e=.returned (.bool true)∧Mod noF w w':=by
 obtain ⟨h10,h30⟩:=longB_false3 hL;have hlg:=fun w' (hm:Mod noF w w')=>long_any (H.keep hm (fun _ _ e=>e)) (by unfold maxLen;omega) (fun l hl=>by have:=h30 l hl;unfold maxLen;omega);rw[hL]at hlg;have Hlg:=Lib.hid hlg;have HH:=Lib.hid H;obtain ⟨oa,oc,rfl,-⟩:=H;obtain ⟨sa,sc,rfl,hcm,-⟩:=Hs.at_
 have d1:decide ((3000:Int)<(l.length:Int))=false:=by simp;omega
 have d2:decide ((f:Int)<1)=false:=by simp;omega
 have d3:decide ((4:Int)<(f:Int))=false:=by simp;omega
 have hkp:0≤(kfG kPush [kPop,kFlsh] ll).1:=by
  rcases kfG_pos (W:=kPush) (ks:=[kPop,kFlsh]) ll with h|h|h
  ·rw[h];decide
  all_goals omega
 have dk:decide ((0:Int)<(kfG kPush [kPop,kFlsh] ll).1)=true:=by simp;omega
 have hnf:=fun c a w=>faultField3 c a w;have H30:=Lib.hid h30;clear hlg Hs h30 hL hkp hk
 go_enter Tryz.func3,Tryz.ntmps3
 go_wp2_with fail
 refine (piled_ok _).mono ?_;rintro e w1 ⟨rfl,hm1⟩;have Hm1:=Lib.hid hm1;clear hm1
 go_wp2_with fail
 refine (Hlg.out _ Hm1.out).mono ?_;rintro e w1 ⟨rfl,rfl⟩;clear Hlg
 go_wp2_with fail
 have hq:=(Mod.refl noF w1).alloc (.cells #[.string kPop,.string kFlsh] 9);refine (kindsG (W:=kPush) (ks:=[kPop,kFlsh]) (HH.out.keep (Hm1.out.trans0 hq) (fun _ _ e=>e)) h10 H30.out w1.heap.size (ks1 w1) (by decide)).mono ?_;rintro e w2 ⟨rfl,hm2⟩;have Hm2:=Lib.hid (hq.trans0 hm2)
 clear hq hm2;generalize (kfG kPush [kPop,kFlsh] ll).1=fc at *;generalize (kfG kPush [kPop,kFlsh] ll).2=fp at *;go_wp2;go_ret;exact ⟨rfl,Hm1.out.trans0 Hm2.out⟩
theorem ssf_good(E:ErrsS w a)(HT:TabW w)(H:RIn N w v (rawS q))(hnil:NilOk w v)(hN:N≤w.heap.size)(hL:longB (rawS q)=false)(hk:(kfG kPush [kPop,kFlsh] (rawS q)).1=0)(h1:1≤q.length)(h6:q.length≤6)(S:Qp.PushOps q)(hf1:1≤f)(hf4:f≤4)
  (Hs:IntsAt w vs l) (hl:l.length≤3000) (hlw:∀x∈l,-9223372036854775808≤x∧x≤9223372036854775807) (hvb:l≠[]→∀b,vs.ownBlock=some b→b<w.heap.size) :
  Calls Tryz.prog 3 #[.int .i64 f,v,vs] w fun e w'=>e=.returned (.bool true)∧Mod noF w w':=by
 obtain ⟨h10,h30⟩:=longB_false3 hL
 have hrl:(rawS q).length=q.length:=by simp[rawS]
 have hlg:=fun w' (hm:Mod noF w w')=>long_any (H.keep hm (fun _ _ e=>e)) (by unfold maxLen;omega) (fun l hl=>by have:=h30 l hl;unfold maxLen;omega);rw[hL]at hlg;have Hlg:=Lib.hid hlg
 have h20r:∀l∈rawS q,l.length≤20:=fun l hl=>by
  obtain ⟨l',hl',rfl⟩:=List.mem_map.1 hl;have:=S.h20 l' hl';rw[List.length_map];omega
 have hgv:=fun w' (hm:Mod noF w w')=>givenP_ok (H.keep hm (fun _ _ e=>e)) (by rw[hrl];exact h6) h20r;rw[giv_all]at hgv;have Hgv:=Lib.hid hgv;have HH:=Lib.hid H;obtain ⟨oa,oc,rfl,-⟩:=H;rw[hrl]at HH hnil Hlg Hgv ⊢;have Hnil:=Lib.hid (fun w1 (hm:Mod noF w w1)=>nilOk_keep3 HH.out hrl hnil hm)
 have HSs:=Lib.hid Hs;obtain ⟨sa,sc,rfl,hcm,-⟩:=Hs.at_
 have d1:decide ((3000:Int)<(l.length:Int))=false:=by simp;omega
 have d2:decide ((f:Int)<1)=false:=by simp;omega
 have d3:decide ((4:Int)<(f:Int))=false:=by simp;omega
 have hnf:=fun c a w=>faultField3 c a w;have HE:=Lib.hid E;have HTW:=Lib.hid HT;have H30:=Lib.hid h30;have Hk:=Lib.hid hk;have H20:=Lib.hid S.h20;have hfn:=s_fine (f:=f) hf1 hf4 h6 S.h20 S.hp;have Hfn:=Lib.hid hfn;have Hlaw:=Lib.hid (Qp.ss_law hf1 hf4 h1 h6 S l (by omega));have Hlw:=Lib.hid hlw
 have Hvb:=Lib.hid hvb;have hpl:=Qp.pushAll_len q S.h20;clear hlg hgv h20r Hs hnil E HT h30 hL hk S hfn hlw hvb hrl
 go_enter Tryz.func3,Tryz.ntmps3
 go_wp2_with fail
 refine (piled_ok _).mono ?_;rintro e w1 ⟨rfl,hm1⟩;have Hm1:=Lib.hid hm1;clear hm1
 go_wp2_with fail
 refine (Hlg.out _ Hm1.out).mono ?_;rintro e w1 ⟨rfl,rfl⟩;clear Hlg
 go_wp2_with fail
 have hq:=(Mod.refl noF w1).alloc (.cells #[.string kPop,.string kFlsh] 9);refine (kindsG (W:=kPush) (ks:=[kPop,kFlsh]) (HH.out.keep (Hm1.out.trans0 hq) (fun _ _ e=>e)) h10 H30.out w1.heap.size (ks1 w1) (by decide)).mono ?_;rintro e w2 ⟨rfl,hm2⟩;rw[Hk.out]
 have Hm2:=Lib.hid (Hm1.out.trans0 (hq.trans0 hm2));clear hq hm2;generalize (kfG kPush [kPop,kFlsh] (rawS q)).2=fp at *
 go_wp2_with fail
 refine (opsOf_ok (HH.out.keep Hm2.out (fun _ _ e=>e)) (Hnil.out _ Hm2.out) h10 H30.out).mono ?_;rintro e w3 ⟨x,rfl,hm3,hR3⟩;have Hm3:=Lib.hid (Hm2.out.trans0 hm3);have HR3:=Lib.hid hR3;obtain ⟨xa,xc,rfl,-⟩:=hR3;clear hm3 Hnil
 go_wp2_with fail
 refine (sbuild_ok (fun N0 f t h=>freshB h) (HE.out.keep Hm3.out) (HTW.out.keep Hm3.out (fun e=>e)) HR3.out (Nat.le_refl _) Hk.out h1 h6 H20.out hf1 hf4).mono ?_;rintro e w4 ⟨iv,rv,cv,vk4,rfl,hm4,hI,hR,hC⟩;have HI:=Lib.hid hI;have HR:=Lib.hid hR;obtain ⟨ca,cc,rfl,hcx⟩:=hC
 have HC4:=Lib.hid (show CodesAt w4 (.slice ca (sCodes f q).length cc) (sCodes f q) vk4 from ⟨ca,cc,rfl,hcx⟩);rw[sCodes_len]at HC4 ⊢;have Hm4:=Lib.hid (Hm3.out.trans0 hm4);obtain ⟨ia,ic,rfl,-⟩:=hI;obtain ⟨ra,rc,rfl,-⟩:=hR;rw[sInit_len]at HI ⊢;rw[sRegs_len]at HR ⊢;clear hm4 hcx HR3
 go_wp2_with fail
 refine (backStart_ok 64 ia ra _ ic _ rc _).mono ?_;rintro e w5 ⟨rfl,hm5⟩;have hq4:=(Mod.refl noF w4).alloc (.cells #[.int .i64 64,.slice ia (q.length+4) ic,.slice ra q.length rc] 32)
 have hT5:=hm5.heap (heap_alloc_new w4 (.cells #[.int .i64 64,.slice ia (q.length+4) ic,.slice ra q.length rc] 32)) (fun e=>e);have HT5:=Lib.hid hT5;have Hm5:=Lib.hid (hq4.trans0 hm5);clear hm5 hq4 hT5
 go_wp2_with fail
 have hI5:=HI.out.keepM Hm5.out;have hR5:=HR.out.keepM Hm5.out;have hC5:=CodesAt.keepM HC4.out Hm5.out
 refine (startFault_ok 64 _ _ _ (sInit f q.length) (sRegs q.length) _ _ _ hI5 hR5 hC5 (by omega) (by omega) (by rw[sCodes_len];exact h1) (by rw[sCodes_len];exact h6) (by rw[sInit_len];omega) (by rw[sCodes_len,sRegs_len];omega) (sInit_fine f _ h6) (sRegs_fine _ h6) Hfn.out).mono ?_
 rintro e w6 ⟨rfl,hm6⟩;have Hm6:=Lib.hid (Hm5.out.trans0 hm6);have HT6:=Lib.hid (hm6.heap HT5.out (fun e=>e));have c0:=cell_of_heap HT6.out 0;have c1:=cell_of_heap HT6.out 1;have c2:=cell_of_heap HT6.out 2;replace c0:w6.cell? ⟨w4.heap.size,0,none⟩=some (.int .i64 64):=c0
 replace c1:w6.cell? ⟨w4.heap.size,1,none⟩=some (.slice ia (q.length+4) ic):=c1;replace c2:w6.cell? ⟨w4.heap.size,2,none⟩=some (.slice ra q.length rc):=c2;clear hm6 hI5 hR5 hC5 HT5
 go_wp2_with fail
 refine (backStart_ok 64 ia ra _ ic _ rc _).mono ?_;rintro e w7 ⟨rfl,hm7⟩;have Hm7:=Lib.hid (Hm6.out.trans0 hm7);clear hm7 c0 c1 c2 HT6
 go_wp2_with fail
 have hI7:=HI.out.keepM Hm7.out;have hR7:=HR.out.keepM Hm7.out;have hC7:=CodesAt.keepM HC4.out Hm7.out
 refine (newMachine_ok 64 _ _ _ (sInit f q.length) (sRegs q.length) _ _ _ hI7 hR7 hC7 (by omega) (by omega) (by rw[sCodes_len];exact h1) (by rw[sCodes_len];exact h6) (by rw[sInit_len];omega) (by rw[sCodes_len,sRegs_len]) (sInit_fine f _ h6) (sRegs_fine _ h6) Hfn.out).mono ?_
 rintro e w8 ⟨L,rfl,hX,hb8,hf8⟩;have HX:=Lib.hid (show Mach ty w8 L (sM f q) 1 from hX);have hq8:=Mod.below hb8;have Hm8:=Lib.hid (Hm4.out.trans0 (Hm7.out.trans0 hq8))
 have hfw:∀j,Foot ty allK L (sM f q) j→w.heap.size≤j:=fun j hj=>by
  have h1:=hf8 j hj;have h2:=(Hm4.out.trans0 Hm7.out).size;omega
 have Hfw:=Lib.hid hfw;clear hX hb8 hf8 hq8 hfw hI7 hR7 hC7 HI HR HC4 Hm7 Hm6 Hm5 Hm4 Hm3
 go_wp2_with fail
 refine (run_any HX.out (easy_any _) (by omega) _ l (HSs.out.frame0 Hm8.out) (by omega) Hlw.out (fun h0 b hb hf=>by have:=Hvb.out h0 b hb;have:=Hfw.out b hf;omega)).mono ?_;rintro e w9 ⟨rfl,L9,U⟩
 have h9:Mod noF w w9:=Hm8.out.trans U.mod fun x hx hf=>by have:=Hfw.out x hf;omega
 have HXa:=U.mach;have htop:=U.top.1;have E:=Hlaw.out;generalize ((sM f q).run l).1=m9 at HXa E;generalize ((sM f q).run l).2=d9 at *
 have HNa:(1:Int)+48*l.length≤1000000:=by omega
 generalize ((1:Int)+48*(l.length:Int))=NN at HXa HNa;obtain ⟨ta,tc,htold,hmk⟩:=HXa.told;have hh:=HXa.head;rw[htold,E.faults]at hh;have h500:=HXa.ot.marks;rw[htop]at hh
 have x3:w9.cell? ⟨L.blk 0 0,3,none⟩=some (.int .i64 0):=by rw[cell_of_heap hh];rfl
 have x2:w9.cell? ⟨L.blk 0 0,2,none⟩=some (.slice ta m9.marks.length tc):=by rw[cell_of_heap hh];rfl
 have Ha:=Lib.hid h9;have HEa:=Lib.hid E;have Hmk:=Lib.hid hmk;have Htop:=Lib.hid htop;have Hxa:=Lib.hid HXa;clear h9 U HXa htop E htold hmk hh HX Hm8 Hlaw Hfw HSs Hlw Hvb
 go_wp2_with fail
 refine (Hgv.out _ Ha.out).mono ?_;rintro e wb ⟨gx,rfl,hmb,hgo,hgv⟩;have hgi:=hgo.ints;have hgl:=hgo.len;obtain ⟨ga,gb,gc,rfl⟩:=slice_of_own hgo;have Hmb:=Lib.hid hmb;have Hgi:=Lib.hid hgi;have y2:=hmb.cell x2 (fun e=>e);have hgb:gb=(Qp.pushAll q).length:=hgl;subst hgb;clear hmb hgo hgv hgi hgl Hgv
 go_wp2_with fail
 refine (marked_ok (L.blk 0 0) ta tc m9.marks y2 (fun i x hx=>by
  obtain ⟨b,h1,h2,h3,h4⟩:=Hmk.out i x hx
  exact ⟨b,h1,Nat.lt_of_lt_of_le h2 Hmb.out.size,Hmb.out.cell h3 (fun e=>e),Hmb.out.cell h4 (fun e=>e)⟩) h500).mono ?_
 rintro e wc ⟨mx,rfl,hmc,hmo,hmv⟩;have hml:=hmo.len;obtain ⟨ma,mb,mc,rfl⟩:=slice_of_own hmo;rw[List.length_map]at hml;have hmb':mb=m9.marks.length:=hml;subst hmb';have Hmc:=Lib.hid hmc;have Hmo:=Lib.hid hmo;have Hmv:=Lib.hid hmv;have z3:=hmc.cell (Hmb.out.cell x3 (fun e=>e)) (fun e=>e)
 clear hmc hmo hmv hml
 go_wp2_with fail
 refine (within_ok Hmo.out.ints (Hgi.out.frame0 Hmc.out) (by rw[List.length_map];omega) (by omega) (within_of HEa.out.within)).mono ?_;rintro e wd ⟨rfl,hmd⟩;have Hmd:=Lib.hid hmd;have Had:=Lib.hid ((Hmb.out.trans0 Hmc.out).trans0 hmd);clear hmd z3
 go_wp2_with fail
 have hrs:=rest_any (Hxa.out.frame0 Had.out);rw[Htop.out]at hrs;refine hrs.mono ?_;rintro e we ⟨rfl,hme⟩;have Hme:=Lib.hid hme;have Hae:=Lib.hid (Had.out.trans0 hme);clear hrs hme
 cases hrest:m9.rest with
 |false=>
  go_wp2;go_ret;exact ⟨rfl,Ha.out.trans0 Hae.out⟩
 |true=>
  by_cases h40:40<(Qp.pushAll q).length
  ·have d40:decide ((40:Int)<((Qp.pushAll q).length:Int))=true:=by simp;omega
   go_wp2;go_ret;exact ⟨rfl,Ha.out.trans0 Hae.out⟩
  have d40:decide ((40:Int)<((Qp.pushAll q).length:Int))=false:=by simp;omega
  obtain ⟨ch,R,hwin,hcl⟩:=HEa.out.rests hrest (by omega);have hch64:=R.len;have HR:=Lib.hid R;have Hwin:=Lib.hid (within_of hwin);have Hcl:=Lib.hid hcl;clear R hwin hrest
  go_wp2_with fail
  have htp:=top_ok (Hxa.out.frame0 Hae.out) HNa ((q.length:Int)+4) HEa.out.r5 HR.out.hq (by rw[HEa.out.T];omega);rw[Htop.out]at htp;refine htp.mono ?_;rintro e wf ⟨⟨tcap,rfl⟩,hmf⟩;have Hmf:=Lib.hid hmf;have Haf:=Lib.hid (Hae.out.trans0 hmf);have hw0:=(node_at (Hxa.out.frame0 Haf.out) HR.out.hq).w0
  rw[HR.out.head]at hw0;have hct:=chainP_ok (Hxa.out.frame0 Haf.out) HNa HR.out.len HR.out.hc;rw[Htop.out]at hct;have Hct:=Lib.hid hct;clear htp hmf hct
  go_wp2_with fail
  refine Hct.out.mono ?_;rintro e wg ⟨cx,rfl,hmg,hco,hcv⟩;have hcll:=hco.len;rw[List.length_map]at hcll;have Hmg:=Lib.hid hmg;have Hag:=Lib.hid (Haf.out.trans0 hmg);obtain ⟨i0,hti,hz0,hz1,hz2⟩:=info_parts intInfo';obtain ⟨vals,hvals⟩:∃vals,vals=ch.map fun a=>(Qg.absM m9).val a 0:=⟨_,rfl⟩
  have hvl:vals.length=ch.length:=by rw[hvals,List.length_map]
  have hmog:wg.ownsRow 0 3 1 (.slice ma m9.marks.length mc) m9.marks.length ((m9.marks.map (·.2)).map (Value.int .i64)):=by
   have:=(Hmo.out.keep ((Hmd.out.trans0 Hme.out).trans0 (Hmf.out.trans0 Hmg.out)) (fun _ _ e=>e));unfold IOwn at this;rw[List.length_map]at this;exact this
  have hbnd:m9.marks.length+ch.length≤maxLen:=by unfold maxLen;omega
  have hm7:∀w7,wg.grownBy w7 (Value.slice ma m9.marks.length mc).ownBlock→Mod noF w9 w7:=fun w7 hgr=>Hag.out.trans ((Mod.refl (fun x=>(Value.slice ma m9.marks.length mc).ownBlock=some x) wg).grown hgr fun j hj _=>hj) fun x hx e=>by
   have:=Hmv.out x e;have:=Hmb.out.size;omega
  have hbw:∀w7,wg.grownBy w7 (Value.slice ma m9.marks.length mc).ownBlock→Mod noF wb w7:=fun w7 hgr=>((Hmc.out.trans0 (Hmd.out.trans0 Hme.out)).trans0 (Hmf.out.trans0 Hmg.out)).trans ((Mod.refl (fun x=>(Value.slice ma m9.marks.length mc).ownBlock=some x) wg).grown hgr fun j hj _=>hj) fun x hx e=>by
   have:=Hmv.out x e;omega
  have Hm7:=Lib.hid hm7;have Hbw:=Lib.hid hbw;have Hmog:=Lib.hid hmog;have Hvals:=Lib.hid hvals;have Hvl:=Lib.hid hvl
  have hll:(m9.marks.map (·.2)++vals).length≤1000:=by
   have:=Hvl.out;rw[List.length_append,List.length_map];omega
  have hwin:=Hwin.out;rw[←hvals]at hwin hco;have Hwin2:=Lib.hid hwin;have Hll:=Lib.hid hll;clear hmog hvals hvl hw0 Hct hm7 hbw hll hwin hmg Hwin
  rcases hco.2 with ⟨rfl,hz⟩|⟨cg,ccap,ccur,rfl,hx0,hx1,hx2,hx3,hx4,hx5⟩
  ·have hv0:vals=[]:=List.eq_nil_of_length_eq_zero hz
   have hc0:ch.length=0:=by have:=Hvl.out;rw[hv0]at this;exact this.symm
   have hmn:m9.marks.length=(Qp.pushAll q).length:=by have:=Hcl.out;omega
   have hio:IOwn wg (.slice ma (Qp.pushAll q).length mc) (m9.marks.map (·.2)++vals):=by
    rw[hv0,List.append_nil,←hmn];exact Hmo.out.keep ((Hmd.out.trans0 Hme.out).trans0 (Hmf.out.trans0 Hmg.out)) (fun _ _ e=>e)
   have Hio:=Lib.hid hio;have hmog2:=Hmog.out;rw[hmn]at hmog2 ⊢;have Hmog2:=Lib.hid hmog2;clear hz hco hcv hcll hio hc0 hmog2 hmn
   go_wp2_with (at_builtin;refine wpList_append_none rfl (.tmp 113) (.tmp 114) 23 rfl 0 3 i0 1 Tryz.underlying23 hti (.slice ma (Qp.pushAll q).length mc) _ _ rfl Hmog2.out rfl ?_)
   refine (within_ok Hio.out.ints (Hgi.out.frame0 ((Hmc.out.trans0 (Hmd.out.trans0 Hme.out)).trans0 (Hmf.out.trans0 Hmg.out))) Hll.out (by omega) Hwin2.out).mono ?_;rintro e w8' ⟨rfl,hm8⟩;have Hm8:=Lib.hid hm8;clear hm8;go_wp2;go_ret;exact ⟨rfl,Ha.out.trans0 (Hag.out.trans0 Hm8.out)⟩
  ·have hcells:=World.ownsRow.cells hco (g:=cg) rfl
   have hcl2:m9.marks.length+vals.length=(Qp.pushAll q).length:=by have:=Hcl.out;have:=Hvl.out;omega
   have Hcells:=Lib.hid hcells;have Hone:=Lib.hid (Qh.ints_one vals)
   have hbnd2:m9.marks.length+vals.length≤maxLen:=by omega
   have h1000:m9.marks.length+vals.length≤1000:=by have:=Hll.out;rw[List.length_append,List.length_map]at this;exact this
   clear hco hcv hcll hx0 hx1 hx2 hx3 hx4 hx5 hcells hbnd
   go_wp2_with (at_builtin;refine wpList_append_mine _ rfl (.tmp 113) (.tmp 114) 23 rfl 3 i0 (.int .i64 0) 1 8 Tryz.underlying23 hti hz0 hz1 hz2 rfl (by decide) _ m9.marks.length ((m9.marks.map (·.2)).map (Value.int .i64)) rfl (by exact Hmog.out) ⟨cg,0,none⟩ vals.length ccap (vals.map (Value.int .i64)) rfl (by rw[List.length_map,Nat.mul_one]) Hcells.out Hone.out hbnd2 (by omega) ?_;intro v4 w7 hown hgr hfr _;obtain ⟨ya,yb,yc,rfl⟩:=slice_of_own hown;have hyb:=(own_len hown).trans hcl2;subst hyb;have Hown4:=Lib.hid hown;have Hgr:=Lib.hid hgr;have Hfr:=Lib.hid hfr;clear hown hgr hfr)
   have hio:IOwn w7 (.slice ya (Qp.pushAll q).length yc) (m9.marks.map (·.2)++vals):=by
    have h:=Hown4.out;rw[hcl2,←List.map_append]at h;unfold IOwn
    have e:(m9.marks.map (·.2)++vals).length=(Qp.pushAll q).length:=by
     rw[List.length_append,List.length_map];exact hcl2
    rw[e];exact h
   refine (within_ok hio.ints (Hgi.out.frame0 (Hbw.out _ Hgr.out)) Hll.out (by omega) Hwin2.out).mono ?_;rintro e w8' ⟨rfl,hm8⟩;have Hm8:=Lib.hid ((Hm7.out _ Hgr.out).trans0 hm8);clear hm8 hio;go_wp2;go_ret;exact ⟨rfl,Ha.out.trans0 Hm8.out⟩
theorem stackSafe_any(a0:Int)(a1:Option Addr)(len1 cap1:Nat)(z1:List (List ROp))(a2:Option Addr)(len2 cap2:Nat)(z2:List Int)(w:World)(hw:(Lit.int .i64 a0).wf=true)(h0:IsOps w a1 len1 cap1 z1)(hs:IsRow .i64 w a2 len2 cap2 z2)(hE:∃a,ErrsS w a)(HT:TabW w) :
  Calls Tryz.prog 3 #[.int .i64 a0,.slice a1 len1 cap1,.slice a2 len2 cap2] w fun e w'=>e=.returned (.bool true)∧Below w.heap.size w w':=by
 obtain ⟨H,hnil,h1,h2⟩:=h0;obtain ⟨a,E⟩:=hE;obtain ⟨l,hl,hlw,hvb⟩:=hs.ints
 have key:Calls Tryz.prog 3 #[.int .i64 a0,.slice a1 len1 cap1,.slice a2 len2 cap2] w fun e w'=>e=.returned (.bool true)∧Mod noF w w':=by
  by_cases hg:longB z1=false∧l.length≤3000∧1≤a0∧a0≤4
  ·obtain ⟨f,rfl⟩:∃f:Nat,a0=(f:Int):=⟨a0.toNat,by omega⟩
   by_cases hk:(kfG kPush [kPop,kFlsh] z1).1=0
   ·obtain ⟨q,rfl,g1,g6,g20,gp⟩:=good_rawS hk;exact ssf_good E HT H hnil (Nat.le_refl _) hg.1 hk g1 g6 ⟨g20,gp⟩ (by omega) (by omega) hl hg.2.1 hlw hvb
   ·exact ssf_bad H hg.1 hl hg.2.1 (by omega) (by omega) hk
  ·exact ssf_out H h1 h2 hl hg
 exact key.mono fun e w' ⟨he,hm⟩=>⟨he,hm.under (Nat.le_refl _) fun k hk=>hk.elim⟩
end
end Go.Proofs.YtppihkneeolomaaGreatDoor
