/- Texts that belong together, joined. -/
import Derived.Test.YtciaficoeajeaaaGreatDoorWFPform
import Derived.Test.YtciaficoeajeaaaGreatDoorWFm3
import Derived.Deep.QuietTactic
import Derived.BigQuiet
import Derived.Outline
import Derived.Test.YtciaficoeajeaaaGreatDoorWFm5
import Derived.Maps.OwnSet
import Derived.Maps.OwnOps
import Derived.StringKeys
import Derived.Carry
import Derived.Maps.Views
import Derived.Test.YtciaficoeajeaaaGreatDoorWFm7
import Derived.Test.YtciaficoeajeaaaGreatDoorWFMach
import Derived.Test.YtciaficoeajeaaaGreatDoorProg
import Derived.WalkKit
import Derived.Lib.Hide
import Derived.Deep.LoopGhost
import Derived.WalkSpells
import Derived.WalkLawsBesides
import Derived.Test.YtciaficoeajeaaaGreatDoorWFm4
import Derived.Deep.RegionWith
import Derived.Test.YtciaficoeajeaaaGreatDoorWFm2
import Derived.Lib.SliceRun
import Derived.Laws.AppendOwnNone
import Derived.OwnWalk
import Derived.RangeFuncNested
import Derived.Laws.StructEq
import Derived.Test.YtciaficoeajeaaaGreatDoorWFPStore
import Derived.Deep.RegionHeld3
import Derived.Test.YtciaficoeajeaaaGreatDoorWFm1
import Derived.Laws.IdiomStrings
set_option linter.unusedVariables false
set_option linter.unusedSimpArgs false
set_option linter.unusedSectionVars false
set_option maxHeartbeats 16000000
set_option maxRecDepth 100000
namespace Go.Proofs.YtciaficoeajeaaaGreatDoor
section
open Go.RowKit Qs Qh
theorem fits_reg(c:UInt8)(hc:c=114∨c=115∨c=119)(n:Int)(w:World):Calls Tryz.prog 115 #[.int .u8 (c.toNat:Int),.int .i64 n] w fun e w'=>e=.returned (.bool (fitB c n))∧w=w':=by
 obtain ⟨k,hk,hf⟩:∃k:Int,(c=114∧k=8∨c=115∧k=7∨c=119∧k=4)∧fitB c n=regB n k:=by
  rcases hc with rfl|rfl|rfl
  ·exact ⟨8,by simp,rfl⟩
  ·exact ⟨7,by simp,rfl⟩
  ·exact ⟨4,by simp,rfl⟩
 rw[hf];unfold regB
 by_cases h0:0≤n
 ·have d0:decide (n<0)=false:=by simp;omega
  have d1:decide (0≤n)=true:=by simpa using h0
  rw[d1]
  rcases hk with ⟨rfl,rfl⟩|⟨rfl,rfl⟩|⟨rfl,rfl⟩
  all_goals
   go_enter Tryz.func115,Tryz.ntmps115
   go_wp2;go_ret;exact ⟨rfl,rfl⟩
 ·have d0:decide (n<0)=true:=by simp;omega
  have d1:decide (0≤n)=false:=by simpa using h0
  rw[d1]
  rcases hk with ⟨rfl,rfl⟩|⟨rfl,rfl⟩|⟨rfl,rfl⟩
  all_goals
   go_enter Tryz.func115,Tryz.ntmps115
   go_wp2;go_ret;exact ⟨rfl,rfl⟩
theorem fits_val(n:Int)(w:World):Calls Tryz.prog 115 #[.int .u8 118,.int .i64 n] w fun e w'=>e=.returned (.bool (isWord n))∧w=w':=by
 go_enter Tryz.func115,Tryz.ntmps115
 go_wp2_with fail
 refine (right_any n w).mono ?_;rintro e w' ⟨rfl,rfl⟩;go_wp2;go_ret;exact ⟨rfl,rfl⟩
theorem fits_any(c:UInt8)(hc:c=114∨c=115∨c=118∨c=119)(n:Int)(w:World):Calls Tryz.prog 115 #[.int .u8 (c.toNat:Int),.int .i64 n] w fun e w'=>e=.returned (.bool (fitB c n))∧w=w':=by
 rcases hc with rfl|rfl|rfl|rfl
 ·exact fits_reg 114 (by simp) n w
 ·exact fits_reg 115 (by simp) n w
 ·exact fits_val n w
 ·exact fits_reg 119 (by simp) n w
end
section
open Go.RowKit Qs Qh
variable {w w':World}{a:Nat→Addr}
def errC(a:Nat→Addr)(e:Int):Value:=if e=0 then .nilIface else errV a (e.toNat - 1)
def riV(x:RI):Value:=.agg #[.string x.op,.int .i64 x.A,.int .i64 x.B,.int .i64 x.C,.string x.to]
theorem nK_facts(k:Nat):(nK k).length≤3∧∀c∈nK k,c=114∨c=115∨c=118∨c=119:=by
 by_cases h:k<21
 ·have key:∀k,k<21→((nK k).length≤3∧∀c∈nK k,c=114∨c=115∨c=118∨c=119):=by decide
  exact key k h
 ·have:nK k=[]:=by
   unfold nK
   split <;> first|omega|rfl
  rw[this];simp
theorem one_no{op to:ByteArray}(A B C:Int)(E:ErrsM w a)(hk:opIx op=none) :
  Calls Tryz.prog 79 #[riV ⟨op,A,B,C,to⟩] w fun e w'=>e=.returned (errV a 2)∧Mod noF w w':=by
 have HE:=Lib.hid E;have Hk:=Lib.hid hk;unfold riV;clear E hk
 go_enter Tryz.func79,Tryz.ntmps79
 go_wp2_with fail
 refine (forms_no Hk.out _).mono ?_;rintro e w1 ⟨rfl,hm1⟩;unfold formN;have hm:=((Mod.refl noF w).alloc (.cells #[.string op,.int .i64 A,.int .i64 B,.int .i64 C,.string to] 73)).trans0 hm1
 have hv:=((HE.out.keep hm).keep ((Mod.refl noF w1).alloc (.cells #[.string ⟨#[]⟩,.bool false] 199))).v2;have Hm:=Lib.hid hm;clear hm hm1;go_wp2;go_ret;exact ⟨rfl,by repeat (first|exact Hm.out|refine Mod.alloc ?_ _|refine Mod.drew ?_|refine Mod.drewN ?_ _)⟩
theorem slice3(b n r:Nat)(hn:n+r=3):∃o,(0<r→o=n)∧∀w,(Go.Instr.sliceAt 202 (.pointer (some ⟨b,0,none⟩)) (some (.int .i64 n)) none none).run Tryz.prog w=.ok (.slice (some ⟨b,o,none⟩) r r) w:=by
 rcases (by omega:n=0∧r=3∨n=1∧r=2∨n=2∧r=1∨n=3∧r=0)with ⟨rfl,rfl⟩|⟨rfl,rfl⟩|⟨rfl,rfl⟩|⟨rfl,rfl⟩
 ·exact ⟨0,fun _=>rfl,fun w=>by kernel_rfl⟩
 ·exact ⟨1,fun _=>rfl,fun w=>by kernel_rfl⟩
 ·exact ⟨2,fun _=>rfl,fun w=>by kernel_rfl⟩
 ·exact ⟨0,fun h=>absurd h (by omega),fun w=>by kernel_rfl⟩
theorem rest_false{k:Nat}{A B C:Int}(h:∀(j:Nat) n,(nK k).length≤j→[A,B,C][j]?=some n→n=0):restB k A B C=false:=by
 unfold restB;rw[List.any_eq_false];intro n hn;obtain ⟨i,hi⟩:=List.getElem?_of_mem hn;rw[List.getElem?_drop]at hi;have:=h _ n (by omega) hi;simp[n0,this]
theorem rest_true{k:Nat}{A B C:Int}{j:Nat}{n:Int}(hj:(nK k).length≤j)(hn:[A,B,C][j]?=some n)(h:¬n=0):restB k A B C=true:=by
 unfold restB;rw[List.any_eq_true];refine ⟨n,List.mem_of_getElem? (i:=j - (nK k).length) (by rw[List.getElem?_drop,show (nK k).length+(j - (nK k).length)=j by omega];exact hn),by simp[n0,h]⟩
theorem bad_false{k:Nat}{A B C:Int}(h:∀(j:Nat) c n,(nK k)[j]?=some c→[A,B,C][j]?=some n→fitB c n=true):badB k A B C=false:=by
 unfold badB;rw[List.any_eq_false];intro p hp;obtain ⟨i,hi⟩:=List.getElem?_of_mem hp;obtain ⟨c,n⟩:=p;rw[List.getElem?_zip_eq_some]at hi;simp[h i c n hi.1 hi.2]
theorem bad_true{k:Nat}{A B C:Int}{j:Nat}{c:UInt8}{n:Int}(hc:(nK k)[j]?=some c)(hn:[A,B,C][j]?=some n)(h:fitB c n=false):badB k A B C=true:=by
 unfold badB;rw[List.any_eq_true];exact ⟨(c,n),List.mem_of_getElem? (i:=j) (List.getElem?_zip_eq_some.2 ⟨hc,hn⟩),by simp[h]⟩
theorem one_some{k:Nat}(hk:k<21){to:ByteArray}(hto:to.size≤maxLen)(A B C:Int)(E:ErrsM w a) :
  Calls Tryz.prog 79 #[riV ⟨opStr k,A,B,C,to⟩] w fun e w'=>e=.returned (errC a (oneE ⟨opStr k,A,B,C,to⟩))∧Mod noF w w':=by
 have hone:oneE ⟨opStr k,A,B,C,to⟩=if !lK k && !to.toList.isEmpty then 3 else if restB k A B C then 3 else if badB k A B C then 2 else if lK k && !nameB to.toList then 4 else 0:=by
  unfold oneE;simp only;rw[opIx_str hk]
 rw[hone];have hf:=fun W=>forms_ok k hk W;obtain ⟨hn3,hnk⟩:=nK_facts k;have Hrf:=Lib.hid (@rest_false k A B C);have Hrt:=Lib.hid (fun (j:Nat) (n:Int)=>@rest_true k A B C j n);have Hbf:=Lib.hid (@bad_false k A B C);have Hbt:=Lib.hid (fun (j:Nat) (c:UInt8) (n:Int)=>@bad_true k A B C j c n)
 unfold formV at hf;generalize hop:opStr k=op at *;generalize restB k A B C=rb at *;generalize badB k A B C=bb at *;generalize nK k=ns at *;generalize lK k=lb at *;obtain ⟨s,hs⟩:∃s:ByteArray,s=⟨ns.toArray⟩:=⟨_,rfl⟩
 have hsn:s.data.toList=ns:=by rw[hs]
 have hsl:s.size=ns.length:=by rw[←hsn];exact (bytes_len s).symm
 rw[←hs]at hf;rw[←hsn]at Hbf Hbt hnk;rw[←hsl]at Hrf Hrt hn3;clear hs hsn hsl;have HE:=Lib.hid E;have Hf:=Lib.hid hf;have Hnk:=Lib.hid hnk;unfold riV;clear E hf hone hop hk hnk;simp only
 have e1:(to.toList.isEmpty)=(to.toList==[]):=by cases to.toList <;> rfl
 cases hb : !lb && !to.toList.isEmpty with
 |true=>
  obtain rfl:lb=false:=by cases lb <;> simp_all
  have e2:to.toList.isEmpty=false:=by simpa using hb
  have e3:(to.toList==[])=false:=by rw[←e1];exact e2
  have e4:¬to.toList=[]:=by simpa using e3
  clear e1 hb
  go_enter Tryz.func79,Tryz.ntmps79
  go_wp2_with fail
  refine (Hf.out _).mono ?_;rintro e w1 ⟨rfl,hm1⟩;have hm:=((Mod.refl noF w).alloc (.cells #[.string op,.int .i64 A,.int .i64 B,.int .i64 C,.string to] 73)).trans0 hm1
  have hv:=((HE.out.keep hm).keep ((Mod.refl noF w1).alloc (.cells #[.string s,.bool false] 199))).v2;have b4:w1.cell? ⟨w.heap.size,4,none⟩=some (.string to):=hm1.cell (by simp) (fun e=>e)
  have hlt:w.heap.size<w1.heap.size:=by have:=hm1.size;simp at this;omega
  have Hm:=Lib.hid hm;clear hm hm1;go_wp2;go_ret;exact ⟨rfl,by repeat (first|exact Hm.out|refine Mod.alloc ?_ _|refine Mod.drew ?_|refine Mod.drewN ?_ _)⟩
 |false=>
  have HB:=Lib.hid hb
  have e2:lb=false→(to.toList==[])=true:=fun h=>by rw[←e1];simpa[h]using hb
  clear hb
  go_enter Tryz.func79,Tryz.ntmps79
  go_wp2_with fail
  refine (Hf.out _).mono ?_;rintro e w1 ⟨rfl,hm1⟩;have hm:=((Mod.refl noF w).alloc (.cells #[.string op,.int .i64 A,.int .i64 B,.int .i64 C,.string to] 73)).trans0 hm1;have b1:w1.cell? ⟨w.heap.size,1,none⟩=some (.int .i64 A):=hm1.cell (by simp) (fun e=>e)
  have b2:w1.cell? ⟨w.heap.size,2,none⟩=some (.int .i64 B):=hm1.cell (by simp) (fun e=>e);have b3:w1.cell? ⟨w.heap.size,3,none⟩=some (.int .i64 C):=hm1.cell (by simp) (fun e=>e);have b4:w1.cell? ⟨w.heap.size,4,none⟩=some (.string to):=hm1.cell (by simp) (fun e=>e)
  have hlt:w.heap.size<w1.heap.size:=by have:=hm1.size;simp at this;omega
  have Hm:=Lib.hid hm;clear hm hm1;obtain ⟨w2,hw2⟩:∃w2,w2=(w1.alloc (.cells #[.string s,.bool lb] 199)).alloc (.cells #[.int .i64 A,.int .i64 B,.int .i64 C] 202):=⟨_,rfl⟩
  have hm2:Mod noF w w2:=by rw[hw2];exact (Hm.out.alloc _).alloc _
  have f0:w2.cell? ⟨w1.heap.size,0,none⟩=some (.string s):=by rw[hw2];simp
  have f1:w2.cell? ⟨w1.heap.size,1,none⟩=some (.bool lb):=by rw[hw2];simp
  have l0:w2.cell? ⟨w1.heap.size+1,0,none⟩=some (.int .i64 A):=by rw[hw2];simp
  have l1:w2.cell? ⟨w1.heap.size+1,1,none⟩=some (.int .i64 B):=by rw[hw2];simp
  have l2:w2.cell? ⟨w1.heap.size+1,2,none⟩=some (.int .i64 C):=by rw[hw2];simp
  have g4:w2.cell? ⟨w.heap.size,4,none⟩=some (.string to):=by rw[hw2];exact (((Mod.refl noF w1).alloc _).alloc _).cell b4 (fun e=>e)
  have E2:=HE.out.keep hm2;have v1:=E2.v1;have v2:=E2.v2;have v3:=E2.v3;have Hm2:=Lib.hid hm2;clear hm2 E2
  have hl:∀(q:Nat),q<3→∃n,[A,B,C][q]?=some n∧w2.cell? ⟨w1.heap.size+1,q,none⟩=some (.int .i64 n):=fun q hq=>by
   rcases (by omega:q=0∨q=1∨q=2)with rfl|rfl|rfl
   ·exact ⟨A,rfl,l0⟩
   ·exact ⟨B,rfl,l1⟩
   ·exact ⟨C,rfl,l2⟩
  have Hl:=Lib.hid hl;clear hl l0 l1 l2;obtain ⟨n,hn,hsz⟩:∃n:Nat,n≤3∧s.size=n:=⟨_,hn3,rfl⟩;rw[hsz]at Hrf Hrt hn3;have Hsz:=Lib.hid hsz;clear hsz hn3
  cases lb with
  |true=>
   clear e2 e1 HB;have hsz:=Hsz.out;obtain ⟨r,hnr⟩:∃r,n+r=3:=⟨3 - n,by omega⟩;obtain ⟨o,ho,hso⟩:=slice3 (w1.heap.size+1) n r hnr;go_wp2;rw[←hw2];clear hw2 hso b1 b2 b3 b4
   go_loop [40,7] (fun i _=>∃j:Nat,j≤r∧i=.int .i64 j∧∀(q:Nat) x,n≤q→q<n+j→[A,B,C][q]?=some x→x=0) (fun i _=>r - (intOf i).toNat)
   case atStart=>exact ⟨0,Nat.zero_le _,rfl,fun q x h1 h2=>absurd h2 (by omega)⟩
   case round=>
    obtain ⟨j,hj,rfl,hz⟩:=hrel;have Hz:=Lib.hid hz;clear hz
    by_cases hlt2:j<r
    ·obtain ⟨x,hx,hc⟩:=Hl.out (n+j) (by omega);obtain rfl:o=n:=ho (by omega)
     have hd:decide ((j:Int)<(r:Int))=true:=by simp;omega
     have hji:(j:Int)<(r:Int):=by omega
     by_cases h0:x=0
     ·subst h0;go_wp2
      go_round
      case rel=>exact ⟨j+1,by omega,by go_num,fun q y h1 h2 h3=>by
       by_cases e:q=o+j
       ·subst e;rw[hx]at h3;exact (Option.some.inj h3).symm
       ·exact Hz.out q y h1 (by omega) h3⟩
      case measure=>simp[intOf];omega
     ·have hd0:(x==0)=false:=by simpa using h0
      have hd1:decide (x=0)=false:=by simpa using h0
      have hrb:=Hrt.out (o+j) x (by omega) hx h0;clear Hz;go_wp2;go_ret;exact ⟨rfl,Hm2.out⟩
    ·have hd:decide ((j:Int)<(r:Int))=false:=by simp;omega
     have hrb:=Hrf.out fun q y h1 h2=>Hz.out q y h1 (by have:=(List.getElem?_eq_some_iff.1 h2).1;simp at this;omega) h2;clear Hz;go_wp2
     go_loopw [51,8] (fun i _ wr=>∃j:Nat,j≤n∧i=.int .i64 j∧Mod noF w2 wr∧∀(q:Nat) c x,q<j→s.data.toList[q]?=some c→[A,B,C][q]?=some x→fitB c x=true) (fun i _ _=>n - (intOf i).toNat)
     case atStart=>exact ⟨0,Nat.zero_le _,rfl,Mod.refl _ _,fun q c x h=>absurd h (by omega)⟩
     case round=>
      generalize wr=w3 at *;obtain ⟨j,hj,rfl,hm3,hz⟩:=hrel;have Hz:=Lib.hid hz;clear hz
      by_cases hlt3:j<n
      ·obtain ⟨x,hx,hc⟩:=Hl.out j (by omega)
       have hd:decide ((j:Int)<(n:Int))=true:=by simp;omega
       have hji:(j:Int)<(n:Int):=by omega
       have hjs:j<s.size:=by omega
       have c0:=hm3.cell f0 (fun e=>e);have c1:=hm3.cell hc (fun e=>e);have gj:=bytes_get s j hjs
       have hfit:∀N,Calls Tryz.prog 115 #[.int .u8 (s[j].toNat:Int),.int .i64 x] (w3.drewN N) fun e w'=>e=.returned (.bool (fitB s[j] x))∧w'=w3.drewN N:=fun N=>(fits_any (s[j]) (Hnk.out _ (List.mem_of_getElem? gj)) x _).mono fun e w' h=>⟨h.1,h.2.symm⟩;have Hfit:=Lib.hid hfit
       have Hgj:=Lib.hid gj;have Hm3:=Lib.hid hm3;clear hfit hm3 gj
       cases hfb:fitB s[j] x with
       |true=>
        rw[hfb]at Hfit;go_wp2
        go_quiet (first|(go_at_call 115;with_reducible exact Calls.quiet_of_same (w:=w3) (v:=.bool true) (Hfit.out _)))
        go_wp2;refine ⟨⟨j+1,by omega,by go_num,Hm3.out.drewN _,fun q c y h1 h2 h3=>?_⟩,by simp[intOf];omega⟩
        by_cases e:q=j
        ·subst e;rw[Hgj.out]at h2;cases h2;rw[hx]at h3;cases h3;exact hfb
        ·exact Hz.out q c y (by omega) h2 h3
       |false=>
        rw[hfb]at Hfit;have hbb:=Hbt.out j _ x Hgj.out hx hfb;clear Hz;go_wp2
        go_quiet (first|(go_at_call 115;with_reducible exact Calls.quiet_of_same (w:=w3) (v:=.bool false) (Hfit.out _)))
        have v1q:=fun N=>(Hm3.out.drewN N).cell v1 (fun e=>e);go_wp2;go_ret;exact ⟨rfl,Hm2.out.trans0 (Hm3.out.drewN _)⟩
      ·have hd:decide ((j:Int)<(n:Int))=false:=by simp;omega
       have hbb:=Hbf.out fun q c x h1 h2=>Hz.out q c x (by have:=(List.getElem?_eq_some_iff.1 h1).1;rw[bytes_len]at this;omega) h1 h2;have c1:=hm3.cell f1 (fun e=>e);have c4:=hm3.cell g4 (fun e=>e);have c3:=hm3.cell v3 (fun e=>e);have Hm3:=Lib.hid hm3;clear Hz hm3
       cases hnb:nameB to.toList with
       |true=>
        go_wp2_with fail
        refine (name_any to _ hto).mono ?_;rintro e w' ⟨rfl,rfl⟩;rw[←Lib.toList_data,hnb];go_wp2;go_ret;exact ⟨rfl,Hm2.out.trans0 Hm3.out⟩
       |false=>
        go_wp2_with fail
        refine (name_any to _ hto).mono ?_;rintro e w' ⟨rfl,rfl⟩;rw[←Lib.toList_data,hnb];go_wp2;go_ret;exact ⟨rfl,Hm2.out.trans0 Hm3.out⟩
  |false=>
   have e3:=e2 rfl
   have e4:to.toList=[]:=by simpa using e3
   have e5:to.toList.isEmpty=true:=by rw[e4];rfl
   clear e2 e1 HB;have hsz:=Hsz.out;obtain ⟨r,hnr⟩:∃r,n+r=3:=⟨3 - n,by omega⟩;obtain ⟨o,ho,hso⟩:=slice3 (w1.heap.size+1) n r hnr;go_wp2;rw[←hw2];clear hw2 hso b1 b2 b3 b4
   go_loop [40,7] (fun i _=>∃j:Nat,j≤r∧i=.int .i64 j∧∀(q:Nat) x,n≤q→q<n+j→[A,B,C][q]?=some x→x=0) (fun i _=>r - (intOf i).toNat)
   case atStart=>exact ⟨0,Nat.zero_le _,rfl,fun q x h1 h2=>absurd h2 (by omega)⟩
   case round=>
    obtain ⟨j,hj,rfl,hz⟩:=hrel;have Hz:=Lib.hid hz;clear hz
    by_cases hlt2:j<r
    ·obtain ⟨x,hx,hc⟩:=Hl.out (n+j) (by omega);obtain rfl:o=n:=ho (by omega)
     have hd:decide ((j:Int)<(r:Int))=true:=by simp;omega
     have hji:(j:Int)<(r:Int):=by omega
     by_cases h0:x=0
     ·subst h0;go_wp2
      go_round
      case rel=>exact ⟨j+1,by omega,by go_num,fun q y h1 h2 h3=>by
       by_cases e:q=o+j
       ·subst e;rw[hx]at h3;exact (Option.some.inj h3).symm
       ·exact Hz.out q y h1 (by omega) h3⟩
      case measure=>simp[intOf];omega
     ·have hd0:(x==0)=false:=by simpa using h0
      have hd1:decide (x=0)=false:=by simpa using h0
      have hrb:=Hrt.out (o+j) x (by omega) hx h0;clear Hz;go_wp2;go_ret;exact ⟨rfl,Hm2.out⟩
    ·have hd:decide ((j:Int)<(r:Int))=false:=by simp;omega
     have hrb:=Hrf.out fun q y h1 h2=>Hz.out q y h1 (by have:=(List.getElem?_eq_some_iff.1 h2).1;simp at this;omega) h2;clear Hz;go_wp2
     go_loopw [51,8] (fun i _ wr=>∃j:Nat,j≤n∧i=.int .i64 j∧Mod noF w2 wr∧∀(q:Nat) c x,q<j→s.data.toList[q]?=some c→[A,B,C][q]?=some x→fitB c x=true) (fun i _ _=>n - (intOf i).toNat)
     case atStart=>exact ⟨0,Nat.zero_le _,rfl,Mod.refl _ _,fun q c x h=>absurd h (by omega)⟩
     case round=>
      generalize wr=w3 at *;obtain ⟨j,hj,rfl,hm3,hz⟩:=hrel;have Hz:=Lib.hid hz;clear hz
      by_cases hlt3:j<n
      ·obtain ⟨x,hx,hc⟩:=Hl.out j (by omega)
       have hd:decide ((j:Int)<(n:Int))=true:=by simp;omega
       have hji:(j:Int)<(n:Int):=by omega
       have hjs:j<s.size:=by omega
       have c0:=hm3.cell f0 (fun e=>e);have c1:=hm3.cell hc (fun e=>e);have gj:=bytes_get s j hjs
       have hfit:∀N,Calls Tryz.prog 115 #[.int .u8 (s[j].toNat:Int),.int .i64 x] (w3.drewN N) fun e w'=>e=.returned (.bool (fitB s[j] x))∧w'=w3.drewN N:=fun N=>(fits_any (s[j]) (Hnk.out _ (List.mem_of_getElem? gj)) x _).mono fun e w' h=>⟨h.1,h.2.symm⟩;have Hfit:=Lib.hid hfit
       have Hgj:=Lib.hid gj;have Hm3:=Lib.hid hm3;clear hfit hm3 gj
       cases hfb:fitB s[j] x with
       |true=>
        rw[hfb]at Hfit;go_wp2
        go_quiet (first|(go_at_call 115;with_reducible exact Calls.quiet_of_same (w:=w3) (v:=.bool true) (Hfit.out _)))
        go_wp2;refine ⟨⟨j+1,by omega,by go_num,Hm3.out.drewN _,fun q c y h1 h2 h3=>?_⟩,by simp[intOf];omega⟩
        by_cases e:q=j
        ·subst e;rw[Hgj.out]at h2;cases h2;rw[hx]at h3;cases h3;exact hfb
        ·exact Hz.out q c y (by omega) h2 h3
       |false=>
        rw[hfb]at Hfit;have hbb:=Hbt.out j _ x Hgj.out hx hfb;clear Hz;go_wp2
        go_quiet (first|(go_at_call 115;with_reducible exact Calls.quiet_of_same (w:=w3) (v:=.bool false) (Hfit.out _)))
        have v1q:=fun N=>(Hm3.out.drewN N).cell v1 (fun e=>e);go_wp2;go_ret;exact ⟨rfl,Hm2.out.trans0 (Hm3.out.drewN _)⟩
      ·have hd:decide ((j:Int)<(n:Int))=false:=by simp;omega
       have hbb:=Hbf.out fun q c x h1 h2=>Hz.out q c x (by have:=(List.getElem?_eq_some_iff.1 h1).1;rw[bytes_len]at this;omega) h1 h2;have c1:=hm3.cell f1 (fun e=>e);have c4:=hm3.cell g4 (fun e=>e);have c3:=hm3.cell v3 (fun e=>e);have Hm3:=Lib.hid hm3;clear Hz hm3;go_wp2;go_ret
       exact ⟨rfl,Hm2.out.trans0 Hm3.out⟩
theorem one_any(x:RI)(hto:x.to.size≤maxLen)(E:ErrsM w a) :
  Calls Tryz.prog 79 #[riV x] w fun e w'=>e=.returned (errC a (oneE x))∧Mod noF w w':=by
 obtain ⟨op,A,B,C,to⟩:=x
 cases hk:opIx op with
 |none=>
  have:oneE ⟨op,A,B,C,to⟩=3:=by unfold oneE;simp only;rw[hk]
  rw[this];exact one_no A B C E hk
 |some k=>
  obtain ⟨h1,rfl⟩:=opIx_some hk;exact one_some h1 hto A B C E
end
section
open Go.RowKit Qs Qh
variable {w w':World}{a:Nat→Addr}{v:Value}{l:List RI}
abbrev HN:=Nat
structure RCode(w:World)(v:Value)(l:List RI):Prop where
 at_:∃a c,v=.slice a l.length c∧∀(i:Nat) x,l[i]?=some x→∃b off,a=some ⟨b,off,none⟩∧b<w.heap.size∧w.cell? ⟨b,off+i*5,none⟩=some (.string x.op)∧w.cell? ⟨b,off+i*5+1,none⟩=some (.int .i64 x.A)∧
  w.cell? ⟨b,off+i*5+2,none⟩=some (.int .i64 x.B)∧w.cell? ⟨b,off+i*5+3,none⟩=some (.int .i64 x.C)∧w.cell? ⟨b,off+i*5+4,none⟩=some (.string x.to)
 ok:∀x∈l,x.to.size≤maxLen
theorem RCode.keep(h:RCode w v l)(hM:Mod noF w w'):RCode w' v l:=by
 obtain ⟨⟨a,c,e,hx⟩,ho⟩:=h;refine ⟨⟨a,c,e,fun i x hi=>?_⟩,ho⟩;obtain ⟨b,off,e1,hb,h0,h1,h2,h3,h4⟩:=hx i x hi;exact ⟨b,off,e1,Nat.lt_of_lt_of_le hb hM.size,hM.cell h0 (fun e=>e),hM.cell h1 (fun e=>e),hM.cell h2 (fun e=>e),hM.cell h3 (fun e=>e),hM.cell h4 (fun e=>e)⟩
open Go.WideMaps in
theorem keyOfS{s:ByteArray}(hs:s.size≤maxLen):keyOf Tryz.prog 9 (.string s)=some (.string s.data.toList):=keyOf_string_mk Tryz.underlying9 hs
theorem zeroInt(w:World):(zeroValue 3).run Tryz.prog w=.ok (.int .i64 0) w:=by kernel_rfl
def keyB(to:ByteArray):Lit:=.string to.data.toList
theorem keyB_inj{s t:ByteArray}(h:keyB s=keyB t):s=t:=by
 unfold keyB at h;simp only[Lit.string.injEq]at h;exact ByteArray.ext (Array.toList_inj.1 h)
def RLab(w:World)(b:Nat)(l:List RI):Prop:=
 ∃(n:Nat) (D:DataW HN),n≤l.length∧w.ownsMap Tryz.prog 9 (plainElem Tryz.prog 3) b n D∧
  ∀to,Maps.has D (keyB to)=(labR to l 0).isSome∧D.atKey (keyB to) (.lit (.int .i64 0))=.lit (.int .i64 (((labR to l 0).getD 0:Nat):Int))
theorem rmap_heap{n b:Nat}{D:DataW HN}{k:TypeId}{R:Value→Option (DataW HN × List MemPlace)}(h:w.ownsMap Tryz.prog k R b n D)(hb:w'.heap[b]?=w.heap[b]?):w'.ownsMap Tryz.prog k R b n D:=by
 obtain ⟨es,clock,h1,h2,h3,h4⟩:=h;exact ⟨es,clock,hb.trans h1,h2,h3,h4⟩
theorem RLab.lt{b:Nat}(h:RLab w b l):b<w.heap.size:=by
 obtain ⟨n,D,h0,h1,h2⟩:=h;exact h1.lt
theorem RLab.keep{F:Nat→Prop}{b:Nat}(h:RLab w b l)(hM:Mod F w w')(hF:¬F b):RLab w' b l:=by
 obtain ⟨n,D,h0,h1,h2⟩:=h;exact ⟨n,D,h0,rmap_heap h1 (hM.block b h1.lt hF),h2⟩
theorem labR_snoc(to:ByteArray)(x:RI):∀(l:List RI) (s:Nat),labR to (l++[x]) s=match labR to l s with|some k=>some k|none=>if x.op=opStr 17∧x.to=to then some (s+l.length)else none
 |[],s=>by simp[labR]
 |y :: l,s=>by
  rw[List.cons_append];unfold labR
  by_cases h:y.op=opStr 17∧y.to=to
  ·rw[if_pos h,if_pos h]
  ·rw[if_neg h,if_neg h,labR_snoc to x l (s+1),List.length_cons,show s+1+l.length=s+(l.length+1) by omega]
theorem RLab.same{b:Nat}{x:RI}(h:RLab w b l)(hx:x.op=opStr 17→(labR x.to l 0).isSome=true):RLab w b (l++[x]):=by
 obtain ⟨n,D,h0,h1,h2⟩:=h;refine ⟨n,D,by rw[List.length_append];omega,h1,fun to=>?_⟩
 have:labR to (l++[x]) 0=labR to l 0:=by
  rw[labR_snoc]
  cases e:labR to l 0 with
  |some k=>rfl
  |none=>
   simp only;rw[if_neg];rintro ⟨g1,g2⟩;have:=hx g1;rw[g2,e]at this;cases this
 rw[this];exact h2 to
theorem RLab.put{b n:Nat}{x:RI}{D:DataW HN}(h0:n≤l.length)(h1:w'.ownsMap Tryz.prog 9 (plainElem Tryz.prog 3) b (n+1) (D.put (keyB x.to) (.lit (.int .i64 (l.length:Int)))))(hm:Go.Maps.IsMap D)
  (h2:∀to,Maps.has D (keyB to)=(labR to l 0).isSome∧D.atKey (keyB to) (.lit (.int .i64 0))=.lit (.int .i64 (((labR to l 0).getD 0:Nat):Int))) (hx:x.op=opStr 17) (hn:labR x.to l 0=none):RLab w' b (l++[x]):=by
 refine ⟨n+1,_,by rw[List.length_append];simp;omega,h1,fun to=>?_⟩;rw[labR_snoc]
 by_cases e:to=x.to
 ·subst e;rw[hn];simp only;rw[if_pos ⟨hx,trivial⟩,Maps.has_put_same hm (by trivial),Maps.atKey_put_same hm (by trivial),Nat.zero_add];exact ⟨rfl,rfl⟩
 ·have hk:keyB to≠keyB x.to:=fun g=>e (keyB_inj g);rw[Maps.has_put_other hk,Maps.atKey_put_other hk,(h2 to).1,(h2 to).2]
  cases labR to l 0 with
  |some k=>exact ⟨rfl,rfl⟩
  |none=>
   simp only;rw[if_neg fun g=>e g.2.symm];exact ⟨rfl,rfl⟩
theorem labels_any(h:RCode w v l)(hl:l.length≤1000000) :
  Calls Tryz.prog 40 #[v] w fun e w'=>e=.returned (.map (some w.heap.size))∧Mod noF w w'∧RLab w' w.heap.size l:=by
 have H:=Lib.hid h;obtain ⟨⟨sa,sc,rfl,-⟩,-⟩:=h;have K:=Go.Maps.string_keyed (P:=Tryz.prog) Tryz.underlying9;have hmm:=@run_makeMap Tryz.prog
 go_enter Tryz.func40,Tryz.ntmps40
 go_wp2
 go_loopw [11,4,5,6,7] (fun i _ _ _ _ wr=>∃k:Nat,k≤l.length∧i=.int .i64 k∧Mod noF w wr∧RLab wr w.heap.size (l.take k)) (fun i _ _ _ _ _=>l.length - (intOf i).toNat)
 case atStart=>
  refine ⟨0,Nat.zero_le _,rfl,(Mod.refl _ _).alloc _,0,.map [],Nat.zero_le _,World.ownsMap_made w _ _ _,fun to=>⟨rfl,rfl⟩⟩
 case round=>
  generalize wr=w2 at *;obtain ⟨k,hk,rfl,hm,hR⟩:=hrel;have Hm:=Lib.hid hm;have HR:=Lib.hid hR;clear hm hR
  by_cases hlt:k<l.length
  ·have hd:decide ((k:Int)<(l.length:Int))=true:=by simp;omega
   have hki:(k:Int)<(l.length:Int):=by omega
   obtain ⟨x,hx⟩:∃x,l[k]?=some x:=⟨_,List.getElem?_eq_getElem hlt⟩;obtain ⟨⟨a',c',e',hxx⟩,hok⟩:=H.out.keep Hm.out;cases e';obtain ⟨b,off,rfl,hb,c0,c1,c2,c3,c4⟩:=hxx k x hx;have hto:=hok x (List.mem_of_getElem? hx);have hkey:keyOf Tryz.prog 9 (.string x.to)=some (keyB x.to):=keyOfS hto
   have htk:l.take (k+1)=l.take k++[x]:=by rw[List.take_add_one,hx];rfl
   have Htk:=Lib.hid htk;clear hxx hok hx htk;obtain ⟨n,D,hn,hown,hD⟩:=HR.out;obtain ⟨hD1,hD2⟩:=hD x.to;have Hown:=Lib.hid hown;have HD:=Lib.hid hD
   have hn2:n<maxLen:=by unfold maxLen;rw[List.length_take]at hn;omega
   have Hn:=Lib.hid hn;obtain ⟨w3,hw3⟩:∃w3,w3=w2.alloc (.cells #[.string x.op,.int .i64 x.A,.int .i64 x.B,.int .i64 x.C,.string x.to] 73):=⟨_,rfl⟩
   have hown3:w3.ownsMap Tryz.prog 9 (plainElem Tryz.prog 3) w.heap.size n D:=by rw[hw3];exact hown.alloc _
   have hm3:Mod noF w w3:=by rw[hw3];exact Hm.out.alloc _
   have d0:w3.cell? ⟨w2.heap.size,0,none⟩=some (.string x.op):=by rw[hw3];simp
   have d4:w3.cell? ⟨w2.heap.size,4,none⟩=some (.string x.to):=by rw[hw3];simp
   have hsz:=Hm.out.size;have Hown3:=Lib.hid hown3;have Hm3:=Lib.hid hm3
   have hlk:(l.take k).length=k:=by rw[List.length_take];omega
   have hmap:Go.Maps.IsMap D:=hown.isMap;clear hown hn hown3 hm3 hD
   by_cases hop:x.op=opStr 17
   ·have hop2:x.op=⟨#[108,97,98,101,108]⟩:=hop;rw[hop2]at c0 d0 hw3
    cases hlb:labR x.to (l.take k) 0 with
    |none=>
     rw[hlb]at hD1;have hD1':Maps.has D (keyB x.to)=false:=hD1;clear hD1 hop2
     have wk:(Lit.int .i64 (k:Int)).wf=true:=by simp only[Lit.wf,Bool.and_eq_true,decide_eq_true_eq];show (-9223372036854775808:Int)≤(k:Int)∧(k:Int)≤9223372036854775807;omega
     go_wp2_with (first
      |(at_lookup;rw[←hw3];refine wpList_lookup_own_ok_int _ rfl _ _ 95 rfl 9 3 .i64 K Tryz.underlying95 Tryz.underlying3 (zeroInt _) w.heap.size n D rfl Hown3.out (.string x.to) (keyB x.to) rfl hkey ?_;intro c hat hwc)
      |(at_mapUpdate;rw[←hw3];refine wpList_mapUpdate_in _ rfl _ _ _ 95 rfl 9 3 K Tryz.underlying95 (plainElem Tryz.prog 3) w.heap.size n D rfl Hown3.out hn2 _ _ (keyB x.to) rfl rfl hkey (.lit (.int .i64 (k:Int))) [] (plainElem_int Tryz.underlying3 wk) ?_;intro w4 hown4 hturn4))
     have hm4:Mod noF w w4:=Hm3.out.trans ((Mod.refl (fun g=>g=w.heap.size) w3).grown hturn4.grown fun j hj _=>by cases hj;rfl) fun g hg e=>by omega
     refine ⟨⟨k+1,by omega,by go_num,hm4,?_⟩,by simp[intOf];omega⟩;rw[Htk.out];rw[←hlk]at hown4;exact RLab.put Hn.out hown4 hmap HD.out hop hlb
    |some q=>
     rw[hlb]at hD1;have hD1':Maps.has D (keyB x.to)=true:=hD1;clear hD1 hop2
     go_wp2_with (at_lookup;rw[←hw3];refine wpList_lookup_own_ok_int _ rfl _ _ 95 rfl 9 3 .i64 K Tryz.underlying95 Tryz.underlying3 (zeroInt _) w.heap.size n D rfl Hown3.out (.string x.to) (keyB x.to) rfl hkey ?_;intro c hat hwc)
     rw[←hw3];refine ⟨⟨k+1,by omega,by go_num,Hm3.out,?_⟩,by simp[intOf];omega⟩;rw[Htk.out]
     exact RLab.same ⟨n,D,Hn.out,Hown3.out,HD.out⟩ fun _=>by rw[hlb];rfl
   ·obtain ⟨e0,f0⟩:(x.op.toList==[108,97,98,101,108])=false∧¬x.op.toList=[108,97,98,101,108]:=by
     have h1:¬x.op.toList=[108,97,98,101,108]:=fun e=>hop (ByteArray.ext (Array.toList_inj.1 (by rw[←ByteArray.toList_eq,e];rfl)));exact ⟨by rw[beq_eq_false_iff_ne];exact h1,h1⟩
    have Hop:=Lib.hid hop;clear hop
    go_wp2_with (at_lookup;rw[←hw3];refine wpList_lookup_own_ok_int _ rfl _ _ 95 rfl 9 3 .i64 K Tryz.underlying95 Tryz.underlying3 (zeroInt _) w.heap.size n D rfl Hown3.out (.string x.to) (keyB x.to) rfl hkey ?_;intro c hat hwc)
    rw[←hw3];refine ⟨⟨k+1,by omega,by go_num,Hm3.out,?_⟩,by simp[intOf];omega⟩;rw[Htk.out];exact RLab.same ⟨n,D,Hn.out,Hown3.out,HD.out⟩ fun g=>absurd g Hop.out
  ·have hd:decide ((k:Int)<(l.length:Int))=false:=by simp;omega
   obtain rfl:k=l.length:=by omega
   have hR:=HR.out;rw[List.take_length]at hR;have HR2:=Lib.hid hR;clear hR;go_wp2;go_ret;exact ⟨rfl,Hm.out,HR2.out⟩
end
section
open Go.RowKit Qs Qh
def LabMap(w:World)(b:Nat)(c:List Instr):Prop:=RLab w b (c.map rawI)
theorem LabMap.keep{F:Nat→Prop}{w w':World}{b:Nat}{c:List Instr}(h:LabMap w b c)(hM:Mod F w w')(hF:¬F b):LabMap w' b c:=RLab.keep h hM hF
theorem LabMap.lt{w:World}{b:Nat}{c:List Instr}(h:LabMap w b c):b<w.heap.size:=RLab.lt h
structure XB where
 bX:Nat
 bL:Nat
 cap:Nat
 P:PB
 cv:Nat→Value
 mb:Nat→Nat
def tVals(X:XB)(t:Nat)(h:Thr):List Value:=
 [X.cv t,.map (some (X.mb t)),iv (h.regs.getD 0 0),iv (h.regs.getD 1 0),iv (h.regs.getD 2 0),iv (h.regs.getD 3 0),iv (h.regs.getD 4 0),iv (h.regs.getD 5 0),iv (h.regs.getD 6 0),iv (h.regs.getD 7 0),iv (h.pc:Nat)]
def XFoot(X:XB)(vs:List Value)(mv:Value)(x:Nat):Prop:=x=X.bX∨x=X.bL∨PFoot X.P vs x∨mv.ownBlock=some x
structure PMach(w:World)(X:XB)(vs:List Value)(mv:Value)(m:M):Prop where
 top:w.heap[X.bX]?=some (.cells #[.pointer (some ⟨X.P.bM,0,none⟩),.slice (some ⟨X.bL,0,none⟩) m.T.length X.cap,mv,.int .i64 m.faults] 87 (0,0))
 thr:∃junk,w.heap[X.bL]?=some (.cells (flat (tVals X) 0 m.T++junk).toArray 99 (0,0))
 mem:PMV w X.P m.cells m.waits vs
 code:∀(t:Nat) h,m.T[t]?=some h→CodeAt w (X.cv t) h.code∧∀g,(X.cv t).ownBlock=some g→¬XFoot X vs mv g∧g<w.heap.size
 maps:∀(t:Nat) h,m.T[t]?=some h→LabMap w (X.mb t) h.code∧¬XFoot X vs mv (X.mb t)
 marks:offRow w 78 2 mv m.marks.length (flat markVals 0 m.marks)
 nX:X.bX≠X.bL∧¬PFoot X.P vs X.bX∧¬PFoot X.P vs X.bL
 nM:∀g,mv.ownBlock=some g→g≠X.bX∧g≠X.bL∧¬PFoot X.P vs g
variable {w w1 w2 w':World}{X:XB}{vs vs':List Value}{mv mv':Value}{m m':M}
theorem PMach.lt(h:PMach w X vs mv m){x:Nat}(hx:XFoot X vs mv x):x<w.heap.size:=by
 obtain ⟨j,hj⟩:=h.thr
 rcases hx with rfl|rfl|hx|hx
 ·exact lt_of_block h.top
 ·exact lt_of_block hj
 ·exact h.mem.lt hx
 ·exact h.marks.lt x hx
theorem PMach.keep{F:Nat→Prop}(h:PMach w X vs mv m)(hM:Mod F w w')(hF:∀x,XFoot X vs mv x→¬F x)(hC:∀(t:Nat) h,m.T[t]?=some h→(∀g,(X.cv t).ownBlock=some g→¬F g)∧¬F (X.mb t)):PMach w' X vs mv m:=by
 obtain ⟨j,hj⟩:=h.thr;refine ⟨hM.heap h.top (hF _ (.inl rfl)),⟨j,hM.heap hj (hF _ (.inr (.inl rfl)))⟩,h.mem.keep hM (fun x hx=>hF x (.inr (.inr (.inl hx)))),fun t k hk=>?_,fun t k hk=>?_,h.marks.keep hM (fun g hg=>hF g (.inr (.inr (.inr hg)))),h.nX,h.nM⟩
 ·obtain ⟨a,b⟩:=h.code t k hk;exact ⟨a.frame hM (hC t k hk).1,fun g hg=>⟨(b g hg).1,Nat.lt_of_lt_of_le (b g hg).2 hM.size⟩⟩
 ·obtain ⟨a,b⟩:=h.maps t k hk;exact ⟨a.keep hM (hC t k hk).2,b⟩
theorem PMach.keep0(h:PMach w X vs mv m)(hM:Mod noF w w'):PMach w' X vs mv m:=h.keep hM (fun _ _ e=>e) (fun _ _ _=>⟨fun _ _ e=>e,fun e=>e⟩)
structure XUp(w:World)(X:XB)(vs:List Value)(mv:Value)(m:M)(w':World)(m':M)(vs':List Value)(mv':Value):Prop where
 rep:PMach w' X vs' mv' m'
 mod:Mod (XFoot X vs mv) w w'
 foot:∀x,XFoot X vs' mv' x→XFoot X vs mv x∨w.heap.size≤x
theorem XUp.quiet(h:PMach w X vs mv m)(hM:Mod noF w w'):XUp w X vs mv m w' m vs mv:=⟨h.keep0 hM,hM.any,fun _ h=>.inl h⟩
theorem XUp.trans{m1 m2:M}{vs1 vs2:List Value}{mv1 mv2:Value}(h:XUp w X vs mv m w1 m1 vs1 mv1)(k:XUp w1 X vs1 mv1 m1 w2 m2 vs2 mv2):XUp w X vs mv m w2 m2 vs2 mv2:=
 ⟨k.rep,h.mod.trans k.mod (fun x hx hf=>(h.foot x hf).resolve_right (by omega)),fun x hx=>(k.foot x hx).elim (fun e=>h.foot x e) (fun e=>.inr (Nat.le_trans h.mod.size e))⟩
theorem XUp.then0{m1:M}{vs1:List Value}{mv1:Value}(h:XUp w X vs mv m w1 m1 vs1 mv1)(k:Mod noF w1 w2):XUp w X vs mv m w2 m1 vs1 mv1:=h.trans (XUp.quiet h.rep k)
theorem tVals_len(X:XB)(s:Nat)(h:Thr):(tVals X s h).length=11:=rfl
theorem PMach.top_at(h:PMach w X vs mv m):w.cell? ⟨X.bX,0,none⟩=some (.pointer (some ⟨X.P.bM,0,none⟩))∧w.cell? ⟨X.bX,1,none⟩=some (.slice (some ⟨X.bL,0,none⟩) m.T.length X.cap)∧w.cell? ⟨X.bX,2,none⟩=some mv∧w.cell? ⟨X.bX,3,none⟩=some (.int .i64 m.faults)∧
  (∀j,w.frozen? ⟨X.bX,j,none⟩=false)∧X.bX<w.heap.size:=by
 have hc:=fun j=>cell_of_heap h.top j;exact ⟨(hc 0).trans rfl,(hc 1).trans rfl,(hc 2).trans rfl,(hc 3).trans rfl,fun j=>free_of_heap h.top j,lt_of_block h.top⟩
theorem PMach.thr_at(h:PMach w X vs mv m){t:Nat}{k:Thr}(ht:m.T[t]?=some k):(∀j u,(tVals X t k)[j]?=some u→w.cell? ⟨X.bL,t*11+j,none⟩=some u)∧(∀j,w.frozen? ⟨X.bL,j,none⟩=false)∧X.bL<w.heap.size:=by
 obtain ⟨junk,hj⟩:=h.thr;refine ⟨fun j u hu=>?_,fun j=>free_of_heap hj j,lt_of_block hj⟩
 have hl:j<11:=by have:=(List.getElem?_eq_some_iff.1 hu).1;simpa[tVals]using this
 rw[cell_of_heap hj];have:=flat_get (tVals X) 11 (tVals_len X) hl m.T 0 t k ht junk;rw[Nat.zero_add]at this;simp only[List.getElem?_toArray];rw[this];exact hu
theorem PMach.setThr(h:PMach w X vs mv m){t j:Nat}{k k':Thr}(ht:m.T[t]?=some k)(hj:j<11){v:Value}(hv:tVals X t k'=(tVals X t k).set j v)(hc:k'.code=k.code) :
  XUp w X vs mv m (w.setCell ⟨X.bL,t*11+j,none⟩ v) {m with T:=m.T.set t k'} vs mv:=by
 have hM:Mod (fun x=>x=X.bL) w (w.setCell ⟨X.bL,t*11+j,none⟩ v):=(Mod.refl (fun x=>x=X.bL) w).setCell (fun _=>rfl) _;obtain ⟨junk,hb⟩:=h.thr;obtain ⟨n1,n2,n3⟩:=h.nX
 have hT:∀(u:Nat) k2,(m.T.set t k')[u]?=some k2→∃k1,m.T[u]?=some k1∧k2.code=k1.code:=fun u k2 hu=>by
  rw[List.getElem?_set]at hu
  by_cases e:t=u
  ·subst e;rw[if_pos rfl,if_pos (List.getElem?_eq_some_iff.1 ht).1]at hu;cases hu;exact ⟨k,ht,hc⟩
  ·rw[if_neg e]at hu;exact ⟨k2,hu,rfl⟩
 have hcn:∀(u:Nat) k1,m.T[u]?=some k1→(∀g,(X.cv u).ownBlock=some g→¬g=X.bL)∧¬X.mb u=X.bL:=fun u k1 hu=>
  ⟨fun g hg e=>((h.code u k1 hu).2 g hg).1 (.inr (.inl e)),fun e=>(h.maps u k1 hu).2 (.inr (.inl e))⟩
 refine ⟨⟨?_,⟨junk,?_⟩,h.mem.keep hM (fun x hx e=>n3 (e ▸ hx)),fun u k2 hu=>?_,fun u k2 hu=>?_,h.marks.keep hM (fun g hg=>(h.nM g hg).2.1),h.nX,h.nM⟩,hM.mono fun x _ e=>.inr (.inl e),fun _ h=>.inl h⟩
 ·have:=hM.heap h.top n1
  simpa using this
 ·rw[Qh.heap_setCell_same hb];have:=flat_set (tVals X) 11 (tVals_len X) hj v m.T 0 t k k' ht (by rw[Nat.zero_add];exact hv) junk;rw[←this];simp
 ·obtain ⟨k1,hk1,e⟩:=hT u k2 hu;obtain ⟨a,b⟩:=h.code u k1 hk1;rw[e];exact ⟨a.frame hM (hcn u k1 hk1).1,fun g hg=>⟨(b g hg).1,Nat.lt_of_lt_of_le (b g hg).2 hM.size⟩⟩
 ·obtain ⟨k1,hk1,e⟩:=hT u k2 hu;obtain ⟨a,b⟩:=h.maps u k1 hk1;rw[e];exact ⟨a.keep hM (hcn u k1 hk1).2,b⟩
theorem PMach.setFaults(h:PMach w X vs mv m)(n:Int):XUp w X vs mv m (w.setCell ⟨X.bX,3,none⟩ (.int .i64 n)) {m with faults:=n} vs mv:=by
 have hM:Mod (fun x=>x=X.bX) w (w.setCell ⟨X.bX,3,none⟩ (.int .i64 n)):=(Mod.refl (fun x=>x=X.bX) w).setCell (fun _=>rfl) _;obtain ⟨junk,hb⟩:=h.thr;obtain ⟨n1,n2,n3⟩:=h.nX
 refine ⟨⟨?_,⟨junk,hM.heap hb (fun e=>n1 e.symm)⟩,h.mem.keep hM (fun x hx e=>n2 (e ▸ hx)),fun u k hu=>?_,fun u k hu=>?_,h.marks.keep hM (fun g hg=>(h.nM g hg).1),h.nX,h.nM⟩,hM.mono fun x _ e=>.inl e,fun _ h=>.inl h⟩
 ·rw[Qh.heap_setCell_same h.top];simp
 ·obtain ⟨a,b⟩:=h.code u k hu;exact ⟨a.frame hM (fun g hg e=>(b g hg).1 (.inl e)),fun g hg=>⟨(b g hg).1,Nat.lt_of_lt_of_le (b g hg).2 hM.size⟩⟩
 ·obtain ⟨a,b⟩:=h.maps u k hu;exact ⟨a.keep hM (fun e=>b (.inl e)),b⟩
theorem PMach.mem_up(h:PMach w X vs mv m){l':List Cell}{ws':List (List Wt)}(u:PUp w X.P vs w' l' ws' vs'):XUp w X vs mv m w' {m with cells:=l',waits:=ws'} vs' mv:=by
 obtain ⟨junk,hb⟩:=h.thr;obtain ⟨n1,n2,n3⟩:=h.nX;have hs:=u.mod.size;have fresh:∀x,x<w.heap.size→¬PFoot X.P vs x→¬PFoot X.P vs' x:=fun x hx hn hf=>(u.foot x hf).elim hn (fun e=>by omega)
 have hft:∀x,XFoot X vs' mv x→XFoot X vs mv x∨w.heap.size≤x:=fun x hx=>by
  rcases hx with e|e|e|e
  ·exact .inl (.inl e)
  ·exact .inl (.inr (.inl e))
  ·exact (u.foot x e).imp (fun e=>.inr (.inr (.inl e))) id
  ·exact .inl (.inr (.inr (.inr e)))
 refine ⟨⟨u.mod.heap h.top n2,⟨junk,u.mod.heap hb n3⟩,u.rep,fun t k hk=>?_,fun t k hk=>?_,h.marks.keep u.mod (fun g hg=>(h.nM g hg).2.2),⟨n1,fresh _ (lt_of_block h.top) n2,fresh _ (lt_of_block hb) n3⟩,fun g hg=>⟨(h.nM g hg).1,(h.nM g hg).2.1,fresh g (h.marks.lt g hg) (h.nM g hg).2.2⟩⟩,
  u.mod.mono fun x _ e=>.inr (.inr (.inl e)),hft⟩
 ·obtain ⟨a,b⟩:=h.code t k hk;exact ⟨a.frame u.mod (fun g hg e=>(b g hg).1 (.inr (.inr (.inl e)))),fun g hg=>⟨fun e=>(hft g e).elim (b g hg).1 (fun e2=>by have:=(b g hg).2;omega),Nat.lt_of_lt_of_le (b g hg).2 hs⟩⟩
 ·obtain ⟨a,b⟩:=h.maps t k hk;exact ⟨a.keep u.mod (fun e=>b (.inr (.inr (.inl e)))),fun e=>(hft _ e).elim b (fun e2=>by have:=a.lt;omega)⟩
theorem PMach.setMarks(h:PMach w X vs mv m){x:Int × Int}(hM:Mod (fun g=>mv.ownBlock=some g) w w2)(hrow:offRow w2 78 2 mv' (m.marks.length+1) (flat markVals 0 (m.marks++[x])))(hnew:∀g,mv'.ownBlock=some g→mv.ownBlock=some g∨w.heap.size≤g) :
  XUp w X vs mv m (w2.setCell ⟨X.bX,2,none⟩ mv') {m with marks:=m.marks++[x]} vs mv':=by
 have hM2:Mod (fun g=>g=X.bX) w2 (w2.setCell ⟨X.bX,2,none⟩ mv'):=(Mod.refl (fun g=>g=X.bX) w2).setCell (fun _=>rfl) _;obtain ⟨junk,hb⟩:=h.thr;obtain ⟨n1,n2,n3⟩:=h.nX;have hs:=hM.size
 have hnm:∀g,mv'.ownBlock=some g→g≠X.bX∧g≠X.bL∧¬PFoot X.P vs g:=fun g hg=>by
  rcases hnew g hg with e|e
  ·exact h.nM g e
  ·have a1:=lt_of_block h.top;have a2:=lt_of_block hb;exact ⟨by omega,by omega,fun e2=>by have:=h.mem.lt e2;omega⟩
 have hft:∀y,XFoot X vs mv' y→XFoot X vs mv y∨w.heap.size≤y:=fun y hy=>by
  rcases hy with e|e|e|e
  ·exact .inl (.inl e)
  ·exact .inl (.inr (.inl e))
  ·exact .inl (.inr (.inr (.inl e)))
  ·exact (hnew y e).imp (fun e=>.inr (.inr (.inr e))) id
 have hMM:Mod (XFoot X vs mv) w (w2.setCell ⟨X.bX,2,none⟩ mv'):=(hM.mono fun y _ e=>.inr (.inr (.inr e))).trans hM2 (fun y _ e=>.inl e)
 refine ⟨⟨?_,⟨junk,hM2.heap (hM.heap hb (fun e=>(h.nM _ e).2.1 rfl)) (fun e=>n1 e.symm)⟩,(h.mem.keep hM (fun y hy e=>(h.nM y e).2.2 hy)).keep hM2 (fun y hy e=>n2 (e ▸ hy)),fun t k hk=>?_,fun t k hk=>?_,?_,h.nX,hnm⟩,hMM,hft⟩
 ·have:=Qh.heap_setCell_same (hM.heap h.top (fun e=>(h.nM _ e).1 rfl)) 2 mv';rw[this];simp
 ·obtain ⟨a,b⟩:=h.code t k hk;exact ⟨a.frame hMM (fun g hg=>(b g hg).1),fun g hg=>⟨fun e=>(hft g e).elim (b g hg).1 (fun e2=>by have:=(b g hg).2;omega),Nat.lt_of_lt_of_le (b g hg).2 hMM.size⟩⟩
 ·obtain ⟨a,b⟩:=h.maps t k hk;exact ⟨a.keep hMM b,fun e=>(hft _ e).elim b (fun e2=>by have:=a.lt;omega)⟩
 ·simp only[List.length_append,List.length_singleton];exact hrow.keep hM2 fun g hg=>(hnm g hg).1
end
section
open Go.RowKit Qs Qh
variable {w w1 w2 w':World}{X:XB}{vs vs':List Value}{mv mv':Value}{m m':M}{N:Int}
structure PX(w:World)(X:XB)(vs:List Value)(mv:Value)(m:M)(N:Int):Prop where
 p:PMach w X vs mv m
 om:OkM N m
 ot:OkT N m
theorem PX.keep0(h:PX w X vs mv m N)(hM:Mod noF w w'):PX w' X vs mv m N:=⟨h.p.keep0 hM,h.om,h.ot⟩
theorem PX.t6(h:PX w X vs mv m N):m.T.length≤6:=by have:=h.om.waits;have:=h.ot.len;omega
theorem pfault_nil(h:PMach w X vs mv m):Calls Tryz.prog 59 #[.pointer (some ⟨X.bX,0,none⟩),.nilIface] w fun e w'=>e=.returned (.bool false)∧w=w':=by
 go_enter Tryz.func59,Tryz.ntmps59
 go_wp2;go_ret;exact ⟨rfl,rfl⟩
theorem pfault_some(h:PMach w X vs mv m)(h0:0≤m.faults)(hN:m.faults≤100000000000)(T:TypeId)(v:Value) :
  Calls Tryz.prog 59 #[.pointer (some ⟨X.bX,0,none⟩),.iface T v] w fun e w'=>e=.returned (.bool true)∧w'=w.setCell ⟨X.bX,3,none⟩ (.int .i64 (m.faults+1)):=by
 obtain ⟨t0,t1,t2,t3,t4,t5⟩:=h.top_at;have H:=Lib.hid h;have f3:=t4 3;clear h t4
 go_enter Tryz.func59,Tryz.ntmps59
 go_wp2;go_ret;exact ⟨rfl,rfl⟩
theorem XUp.aside{m1:M}{g:Nat}(h0:PMach w X vs mv m)(hT:∀(t:Nat) k1,m1.T[t]?=some k1→∃k,m.T[t]?=some k)(h:XUp w X vs mv m w1 m1 vs mv)(hg:w.heap.size≤g)(hM:Mod (fun x=>x=g) w1 w2):XUp w X vs mv m w2 m1 vs mv:=by
 refine ⟨h.rep.keep hM (fun x hx e=>?_) (fun t k1 hk1=>?_),h.mod.trans hM (fun x hx e=>by omega),h.foot⟩
 ·have:=h0.lt hx;omega
 ·obtain ⟨k,hk⟩:=hT t k1 hk1;refine ⟨fun g' hg' e=>?_,fun e=>?_⟩
  ·have:=((h0.code t k hk).2 g' hg').2;omega
  ·have:=(h0.maps t k hk).1.lt;omega
theorem pfaults_any(h:PMach w X vs mv m):Calls Tryz.prog 30 #[.pointer (some ⟨X.bX,0,none⟩)] w fun e w'=>e=.returned (.int .i64 m.faults)∧w=w':=by
 obtain ⟨t0,t1,t2,t3,t4,t5⟩:=h.top_at;clear h t4
 go_enter Tryz.func30,Tryz.ntmps30
 go_wp2;go_ret;exact ⟨rfl,rfl⟩
theorem pcode_cell(P:PMach w X vs mv m){t:Nat}{h:Thr}(ht:m.T[t]?=some h){x:Instr}(hx:h.code[h.pc]?=some x) :
  ∃b off c,X.cv t=.slice (some ⟨b,off,none⟩) h.code.length c∧b<w.heap.size∧(∀j y,(instrVals x)[j]?=some y→w.cell? ⟨b,off+h.pc*5+j,none⟩=some y):=by
 obtain ⟨hc,_⟩:=P.code t h ht;obtain ⟨a,c,e,_,hi⟩:=hc.at_;obtain ⟨b,off,rfl,hb,hcell⟩:=hi h.pc x hx;exact ⟨b,off,c,e,hb,hcell⟩
theorem pcode_slice(P:PMach w X vs mv m){t:Nat}{h:Thr}(ht:m.T[t]?=some h):∃a c,X.cv t=.slice a h.code.length c:=by
 obtain ⟨hc,_⟩:=P.code t h ht;obtain ⟨a,c,e,_⟩:=hc.at_;exact ⟨a,c,e⟩
theorem pdone_any(H:PX w X vs mv m N)(t:Nat)(ht:t<m.T.length) :
  Calls Tryz.prog 20 #[.pointer (some ⟨X.bX,0,none⟩),.int .i64 t] w fun e w'=>e=.returned (.bool (m.done t))∧Mod noF w w':=by
 obtain ⟨h,hh⟩:∃h,m.T[t]?=some h:=⟨_,List.getElem?_eq_getElem ht⟩
 have hthr:m.thr t=h:=by simp[M.thr,List.getD,hh]
 obtain ⟨t0,t1,t2,t3,t4,t5⟩:=H.p.top_at;obtain ⟨r1,r2,r3⟩:=H.p.thr_at hh;have r0:w.cell? ⟨X.bL,t*11,none⟩=some (X.cv t):=r1 0 _ rfl;have r10:w.cell? ⟨X.bL,t*11+10,none⟩=some (.int .i64 (h.pc:Nat)):=r1 10 _ rfl;obtain ⟨hpc,hco⟩:=H.ot.code t h hh;have hlen:=hco.len;have ht6:=H.t6
 have hdone:m.done t=(match h.code[h.pc]? with|none=>true|some x=>x.op==20):=by unfold M.done;rw[hthr];cases h.code[h.pc]? <;> rfl
 have d0:decide ((t:Int)<0)=false:=by simp
 have d1:decide ((m.T.length:Int)≤(t:Int))=false:=by simp;omega
 cases hx:h.code[h.pc]? with
 |none=>
  rw[hx]at hdone;obtain ⟨a,c,e⟩:=pcode_slice H.p hh;rw[e]at r0
  have hge:h.code.length≤h.pc:=by
   rcases Nat.lt_or_ge h.pc h.code.length with h'|h'
   ·rw[List.getElem?_eq_getElem h']at hx;cases hx
   ·exact h'
  have d2:decide ((h.code.length:Int)≤(h.pc:Int))=true:=by simp;omega
  have Hdone:=Lib.hid hdone;have Hh:=Lib.hid hh;clear hdone hthr hx H e hh t4 r1 r2 hco
  go_enter Tryz.func20,Tryz.ntmps20
  go_wp2
  try go_quiet (fail)
  try go_wp2
  go_ret;exact ⟨ret_bool (by rw[Hdone.out]),by first|exact (Mod.refl _ _).drewN _|exact Mod.refl _ _⟩
 |some x=>
  rw[hx]at hdone;obtain ⟨b,off,c,e,hb,hcell⟩:=pcode_cell H.p hh hx;rw[e]at r0;have hlt:h.pc<h.code.length:=(List.getElem?_eq_some_iff.1 hx).1
  have d2:decide ((h.code.length:Int)≤(h.pc:Int))=false:=by simp;omega
  have hmem:x∈h.code:=List.mem_of_getElem? hx;have hle:=insOk_le (hco.ins x hmem);have c0:=hcell 0 _ rfl;simp only[Nat.add_zero]at c0
  have hst:((opStr x.op).toList==[115,116,111,112])=(x.op==20):=by
   rw[Bool.eq_iff_iff,beq_iff_eq,beq_iff_eq];exact opStr_stop hle
  generalize hs:opStr x.op=s at *;have Hs:=Lib.hid hs;have Hdone:=Lib.hid hdone;have Hst:=Lib.hid hst;clear hdone hthr hx H e hh t4 r1 r2 hco hcell hs hmem hst
  go_enter Tryz.func20,Tryz.ntmps20
  go_wp2
  try go_quiet (fail)
  try go_wp2
  go_ret;exact ⟨ret_bool (by rw[Hdone.out,←Hst.out,show decide (h.code.length≤h.pc)=false from decide_eq_false (by omega)];rfl),by first|exact (Mod.refl _ _).drewN _|exact Mod.refl _ _⟩
end
section
open Go.RowKit Qs Qh
variable {w w1 w2 w':World}{X:XB}{vs vs':List Value}{mv mv':Value}{m m':M}{N:Int}
theorem pmarkInfo0:(Tryz.prog.info? 78).map (fun i=>(i.zero,i.size,i.bytes))=some (some (.agg #[.int .i64 0,.int .i64 0]),2,16):=by kernel_rfl
theorem mark_one(l:List (Int × Int))(s:Nat):∀u∈flat markVals s l,u.oneCell'=true:=fun u hu=>by
 induction l generalizing s with
 |nil=>simp[flat]at hu
 |cons x l ih=>
  simp only[flat,List.mem_append]at hu
  rcases hu with h|h
  ·simp[markVals,iv]at h
   rcases h with rfl|rfl <;> rfl
  ·exact ih _ h
theorem clone_marks{v:Value}{l:List (Int × Int)}(h:offRow w 78 2 v l.length (flat markVals 0 l))(hl:l.length≤500) :
  Calls Tryz.prog 73 #[v] w fun e w'=>∃v',e=.returned v'∧w'.ownsRow 0 78 2 v' l.length (flat markVals 0 l)∧Mod noF w w'∧∀g,v'.ownBlock=some g→w.heap.size≤g:=by
 have qT:∀(w:World) (a:Option Addr) (n c n' c':Nat),(binOp .eql 75 (.slice a n c) (.slice none n' c')).run Tryz.prog w=.ok (.bool a.isNone) w:=fun w a n c n' c'=>Lib.run_eql_slice_nil w _ _ a n c n' c' Tryz.underlying75;obtain ⟨i0,hi,hz0,hz1,hz2⟩:=info_parts pmarkInfo0
 have hlen:(flat markVals 0 l).length=l.length*2:=flat_length markVals 2 (fun _ _=>rfl) l 0
 rcases h.2 with ⟨rfl,h0⟩|⟨g,s,cap,cur,rfl,hg,h1,h2,h3,h4⟩
 ·obtain rfl:l=[]:=List.eq_nil_of_length_eq_zero h0
  go_enter Tryz.func73,Tryz.ntmps73
  go_wp2;go_ret;exact ⟨_,rfl,⟨rfl,.inl ⟨rfl,rfl⟩⟩,Mod.refl _ _,by simp[Value.ownBlock]⟩
 ·have hsrc:∀j u,(flat markVals 0 l)[j]?=some u→w.cell? ((⟨g,s,none⟩:Addr).add j)=some u:=fun j u hu=>by
   have hadd:(⟨g,s,none⟩:Addr).add j=⟨g,s+j,none⟩:=by unfold Addr.add;split <;> simp_all
   rw[hadd,cell_of_heap hg];rw[←h4,List.getElem?_take]at hu
   split at hu
   ·rw[List.getElem?_drop]at hu;simpa using hu
   ·cases hu
  have Hsrc:=Lib.hid hsrc;have Hlen:=Lib.hid hlen;have Hone:=Lib.hid (mark_one l 0)
  have hbnd:0+l.length≤maxLen:=by unfold maxLen;omega
  have hbnd2:(0+l.length)*16≤140737488355328:=by omega
  clear hsrc hlen h h3 h4 hg h2
  go_enter Tryz.func73,Tryz.ntmps73
  go_wp2_with (at_builtin;refine wpList_append_mine _ rfl (.tmp 5) (.tmp 6) 75 rfl 78 i0 (.agg #[.int .i64 0,.int .i64 0]) 2 16 Tryz.underlying75 hi hz0 hz1 hz2 rfl (by decide) (.slice (some ⟨w.heap.size,0,none⟩) 0 0) 0 [] rfl (World.ownsRow_made w #[] 0 (Nat.zero_le _) (by decide) rfl) ⟨g,s,none⟩ l.length cap (flat markVals 0 l) rfl Hlen.out (fun j u hj=>(Mod.refl noF w |>.alloc _).cell (Hsrc.out j u hj) (fun e=>e)) Hone.out hbnd hbnd2 ?_;intro v2 w2 hown2 hgr2 hfr2 hz2';have hm2:Mod noF w w2:=((Mod.refl noF w).alloc (.cells #[] 78)).grown hgr2 (fun k hk hlt=>by simp[Value.ownBlock]at hk;omega);have Hm2:=Lib.hid hm2;have Hown2:=Lib.hid hown2;have Hfr2:=Lib.hid hfr2;clear hm2 hown2 hgr2 hfr2 hz2')
  go_ret;refine ⟨_,rfl,?_,Hm2.out,fun k hk=>?_⟩
  ·have:=Hown2.out
   rwa [Nat.zero_add,List.nil_append]at this
  ·rcases Hfr2.out k hk with e|e
   ·simp[Value.ownBlock]at e;omega
   ·simp at e;omega
end
section
open Go.RowKit Qs Qh
variable {w w1 w2 w':World}
theorem own_off{T:TypeId}{size n:Nat}{v:Value}{xs:List Value}(h:w.ownsRow 0 T size v n xs):offRow w T size v n xs:=by
 refine ⟨h.1,?_⟩
 rcases h.2 with e|⟨g,cap,cur,rfl,_,hg,h1,h2,h3,h4⟩
 ·exact .inl e
 ·exact .inr ⟨g,0,cap,cur,rfl,hg,h1,h2,by omega,by rw[List.drop_zero];exact h4⟩
theorem cwaitInfo:(Tryz.prog.info? 182).map (fun i=>(i.zero,i.size,i.bytes))=some (some (.agg #[.int .i64 0,.int .i64 0,.int .i64 0,.int .i64 0]),4,32):=by kernel_rfl
theorem cthrInfo:(Tryz.prog.info? 99).map (fun i=>(i.zero,i.size,i.bytes))=some (some (.agg #[.slice none 0 0,.map none,.int .i64 0,.int .i64 0,.int .i64 0,.int .i64 0,.int .i64 0,.int .i64 0,.int .i64 0,.int .i64 0,.int .i64 0]),11,104):=by kernel_rfl
theorem cwait_nil(w:World):Calls Tryz.prog 137 #[.slice none 0 0] w fun e w'=>e=.returned (.slice none 0 0)∧Mod noF w w':=by
 have qT:∀(w:World) (a:Option Addr) (n c n' c':Nat),(binOp .eql 180 (.slice a n c) (.slice none n' c')).run Tryz.prog w=.ok (.bool a.isNone) w:=fun w a n c n' c'=>Lib.run_eql_slice_nil w _ _ a n c n' c' Tryz.underlying180
 go_enter Tryz.func137,Tryz.ntmps137
 go_wp2;go_ret;exact ⟨rfl,Mod.refl _ _⟩
theorem cwait_any(g s cap n:Nat)(xs:List Value)(hlen:xs.length=n*4)(hsrc:∀j u,xs[j]?=some u→w.cell? ((⟨g,s,none⟩:Addr).add j)=some u)(hone:∀u∈xs,u.oneCell'=true)(hn:n≤1000) :
  Calls Tryz.prog 137 #[.slice (some ⟨g,s,none⟩) n cap] w fun e w'=>∃v',e=.returned v'∧w'.ownsRow 0 182 4 v' n xs∧Mod noF w w'∧∀g,v'.ownBlock=some g→w.heap.size≤g:=by
 have qT:∀(w:World) (a:Option Addr) (n c n' c':Nat),(binOp .eql 180 (.slice a n c) (.slice none n' c')).run Tryz.prog w=.ok (.bool a.isNone) w:=fun w a n c n' c'=>Lib.run_eql_slice_nil w _ _ a n c n' c' Tryz.underlying180;obtain ⟨i0,hi,hz0,hz1,hz2⟩:=info_parts cwaitInfo
 have Hsrc:=Lib.hid hsrc;have Hlen:=Lib.hid hlen;have Hone:=Lib.hid hone
 have hbnd:0+n≤maxLen:=by unfold maxLen;omega
 have hbnd2:(0+n)*32≤140737488355328:=by omega
 clear hsrc hlen hone
 go_enter Tryz.func137,Tryz.ntmps137
 go_wp2_with (at_builtin;refine wpList_append_mine _ rfl (.tmp 5) (.tmp 6) 180 rfl 182 i0 (.agg #[.int .i64 0,.int .i64 0,.int .i64 0,.int .i64 0]) 4 32 Tryz.underlying180 hi hz0 hz1 hz2 rfl (by decide) (.slice (some ⟨w.heap.size,0,none⟩) 0 0) 0 [] rfl (World.ownsRow_made w #[] 0 (Nat.zero_le _) (by decide) rfl) ⟨g,s,none⟩ n cap xs rfl Hlen.out (fun j u hj=>(Mod.refl noF w |>.alloc _).cell (Hsrc.out j u hj) (fun e=>e)) Hone.out hbnd hbnd2 ?_;intro v2 w2 hown2 hgr2 hfr2 hz2';have hm2:Mod noF w w2:=((Mod.refl noF w).alloc (.cells #[] 182)).grown hgr2 (fun k hk hlt=>by simp[Value.ownBlock]at hk;omega);have Hm2:=Lib.hid hm2;have Hown2:=Lib.hid hown2;have Hfr2:=Lib.hid hfr2;clear hm2 hown2 hgr2 hfr2 hz2')
 go_ret;refine ⟨_,rfl,?_,Hm2.out,fun k hk=>?_⟩
 ·have:=Hown2.out
  rwa [Nat.zero_add,List.nil_append]at this
 ·rcases Hfr2.out k hk with e|e
  ·simp[Value.ownBlock]at e;omega
  ·simp at e;omega
theorem cthr_any(g s cap n:Nat)(xs:List Value)(hlen:xs.length=n*11)(hsrc:∀j u,xs[j]?=some u→w.cell? ((⟨g,s,none⟩:Addr).add j)=some u)(hone:∀u∈xs,u.oneCell'=true)(hn:n≤1000) :
  Calls Tryz.prog 130 #[.slice (some ⟨g,s,none⟩) n cap] w fun e w'=>∃v',e=.returned v'∧w'.ownsRow 0 99 11 v' n xs∧Mod noF w w'∧∀g,v'.ownBlock=some g→w.heap.size≤g:=by
 have qT:∀(w:World) (a:Option Addr) (n c n' c':Nat),(binOp .eql 85 (.slice a n c) (.slice none n' c')).run Tryz.prog w=.ok (.bool a.isNone) w:=fun w a n c n' c'=>Lib.run_eql_slice_nil w _ _ a n c n' c' Tryz.underlying85;obtain ⟨i0,hi,hz0,hz1,hz2⟩:=info_parts cthrInfo
 have Hsrc:=Lib.hid hsrc;have Hlen:=Lib.hid hlen;have Hone:=Lib.hid hone
 have hbnd:0+n≤maxLen:=by unfold maxLen;omega
 have hbnd2:(0+n)*104≤140737488355328:=by omega
 clear hsrc hlen hone
 go_enter Tryz.func130,Tryz.ntmps130
 go_wp2_with (at_builtin;refine wpList_append_mine _ rfl (.tmp 5) (.tmp 6) 85 rfl 99 i0 (.agg #[.slice none 0 0,.map none,.int .i64 0,.int .i64 0,.int .i64 0,.int .i64 0,.int .i64 0,.int .i64 0,.int .i64 0,.int .i64 0,.int .i64 0]) 11 104 Tryz.underlying85 hi hz0 hz1 hz2 rfl (by decide) (.slice (some ⟨w.heap.size,0,none⟩) 0 0) 0 [] rfl (World.ownsRow_made w #[] 0 (Nat.zero_le _) (by decide) rfl) ⟨g,s,none⟩ n cap xs rfl Hlen.out (fun j u hj=>(Mod.refl noF w |>.alloc _).cell (Hsrc.out j u hj) (fun e=>e)) Hone.out hbnd hbnd2 ?_;intro v2 w2 hown2 hgr2 hfr2 hz2';have hm2:Mod noF w w2:=((Mod.refl noF w).alloc (.cells #[] 99)).grown hgr2 (fun k hk hlt=>by simp[Value.ownBlock]at hk;omega);have Hm2:=Lib.hid hm2;have Hown2:=Lib.hid hown2;have Hfr2:=Lib.hid hfr2;clear hm2 hown2 hgr2 hfr2 hz2')
 go_ret;refine ⟨_,rfl,?_,Hm2.out,fun k hk=>?_⟩
 ·have:=Hown2.out
  rwa [Nat.zero_add,List.nil_append]at this
 ·rcases Hfr2.out k hk with e|e
  ·simp[Value.ownBlock]at e;omega
  ·simp at e;omega
end
section
open Go.RowKit Qs Qh
variable {w w1 w2 w':World}
theorem acell_one(l:List Cell)(s:Nat):∀u∈flat acell s l,u.oneCell'=true:=fun u hu=>by
 induction l generalizing s with
 |nil=>simp[flat]at hu
 |cons x l ih=>
  simp only[flat,List.mem_append]at hu
  rcases hu with h|h
  ·simp[acell,iv]at h
   rcases h with rfl|rfl|rfl|rfl|rfl|rfl <;> rfl
  ·exact ih _ h
theorem add_at(g s j:Nat):(⟨g,s,none⟩:Addr).add j=⟨g,s+j,none⟩:=by unfold Addr.add;split <;> simp_all
theorem acopy_any{b g:Nat}{l:List Cell}(R:AAt w b g l)(h1:1≤l.length)(hn:l.length≤64) :
  Calls Tryz.prog 136 #[.pointer (some ⟨b,0,none⟩)] w fun e w'=>∃b' g',e=.returned (.pointer (some ⟨b',0,none⟩))∧AAt w' b' g' l∧Mod noF w w'∧w.heap.size≤b'∧w.heap.size≤g':=by
 obtain ⟨i0,hi,hz0,hz1,hz2⟩:=info_parts acellInfo;obtain ⟨ka,h0⟩:=R.slice;obtain ⟨hb,hgl⟩:=R.lt;obtain ⟨junk,hc⟩:=R.cells
 have hsrc:∀j u,(flat acell 0 l)[j]?=some u→w.cell? ((⟨g,0,none⟩:Addr).add j)=some u:=fun j u hu=>by
  rw[add_at,cell_of_heap hc,Nat.zero_add]
  have:(flat acell 0 l++junk)[j]?=some u:=by rw[List.getElem?_append_left (List.getElem?_eq_some_iff.1 hu).1];exact hu
  simpa using this
 have hlen:(flat acell 0 l).length=l.length*6:=flat_length acell 6 acell_len l 0;have Hsrc:=Lib.hid hsrc;have Hlen:=Lib.hid hlen;have Hone:=Lib.hid (acell_one l 0)
 have hbnd:0+l.length≤maxLen:=by unfold maxLen;omega
 have hbnd2:(0+l.length)*48≤140737488355328:=by omega
 clear hsrc hlen hc R
 go_enter Tryz.func136,Tryz.ntmps136
 go_wp2_with (at_builtin;refine wpList_append_mine _ rfl (.const (.slice none 0 0)) (.tmp 6) 194 rfl 220 i0 (.agg #[.int .i64 0,.int .i64 0,.int .i64 0,.int .i64 0,.int .i64 0,.bool false]) 6 48 Tryz.underlying194 hi hz0 hz1 hz2 rfl (by decide) (.slice none 0 0) 0 [] rfl (World.ownsRow_nil w 0 _ 6) ⟨g,0,none⟩ l.length ka (flat acell 0 l) rfl Hlen.out Hsrc.out Hone.out hbnd hbnd2 ?_;intro v2 w2 hown2 hgr2 hfr2 hz2';have hm2:Mod noF w w2:=(Mod.refl noF w).grown hgr2 (fun k hk hlt=>by simp[Value.ownBlock]at hk);rw[Nat.zero_add,List.nil_append]at hown2;rcases hown2.2 with ⟨-,e0⟩|⟨g',cap,cur,rfl,_,hg',x1,x2,x3,x4⟩;exact absurd e0 (by omega);have hfresh:=(hfr2 g' rfl).resolve_left (by simp[Value.ownBlock]);have Hg':=Lib.hid hg';have Hx4:=Lib.hid x4;have Hm2:=Lib.hid hm2;clear hown2 hgr2 hfr2 hz2' hg' x1 x2 x3 x4 hm2)
 go_ret;have hal:=(Mod.refl noF w2).alloc (.cells #[.slice (some ⟨g',0,none⟩) l.length cap] 196);refine ⟨w2.heap.size,g',rfl,⟨⟨cap,heap_alloc_new w2 _⟩,⟨cur.toList.drop (l.length*6),?_⟩,by have:=lt_of_block Hg'.out;omega⟩,Hm2.out.trans0 hal,Hm2.out.size,hfresh⟩
 have e:(flat acell 0 l++cur.toList.drop (l.length*6)).toArray=cur:=by rw[←Hx4.out,List.take_append_drop]
 rw[e];exact hal.heap Hg'.out (fun e=>e)
end
section
open Go.RowKit Qs Qh
variable {w w':World}{a:Nat→Addr}{v:Value}{l:List RI}
theorem RLab.looks{b:Nat}(h:RLab w b l){to:ByteArray}(hto:to.size≤maxLen) :
  (Go.Instr.lookup 95 (.map (some b)) (.string to) false).run Tryz.prog w=.ok (.int .i64 (((labR to l 0).getD 0:Nat):Int)) w∧
  (Go.Instr.lookup 95 (.map (some b)) (.string to) true).run Tryz.prog w=.ok (.tuple #[.int .i64 (((labR to l 0).getD 0:Nat):Int),.bool (labR to l 0).isSome]) w:=by
 obtain ⟨n,D,h0,hown,hD⟩:=h;obtain ⟨hD1,hD2⟩:=hD to;have K:=Go.Maps.string_keyed (P:=Tryz.prog) Tryz.underlying9;have hkey:keyOf Tryz.prog 9 (.string to)=some (keyB to):=keyOfS hto;constructor
 ·obtain ⟨c,hrun,hat,hwc⟩:=hown.lookup_int K Tryz.underlying95 Tryz.underlying3 (zeroInt _) hkey;rw[hrun];rw[hD2]at hat;cases hat;rfl
 ·obtain ⟨v,ps,hrun,hv⟩:=hown.look_ok K Tryz.underlying95 (zeroInt _) (plainElem_int Tryz.underlying3 (by decide)) hkey;rw[hrun,hD1];rw[hD2]at hv;obtain ⟨c,rfl,hc,hwc⟩:=plainElem_int_inv Tryz.underlying3 hv;cases hc;rfl
theorem one_neg{x:RI}:0≤oneE x∧oneE x≤4:=by
 unfold oneE
 split
 ·decide
 ·split
  ·decide
  ·split
   ·decide
   ·split
    ·decide
    ·split <;> decide
theorem chkF_at{l:List RI}:∀ {r:List RI} {s k:Nat} {x:RI},r[k]?=some x→(∀(j:Nat) y,j<k→r[j]?=some y→chkI l (s+j) y=0)→chkI l (s+k) x≠0→chkF l r s=(chkI l (s+k) x,((s+k:Nat):Int))
 |[],s,k,x,h,_,_=>by simp at h
 |y :: r,s,0,x,h,_,hx=>by
  cases h;unfold chkF;rw[Nat.add_zero]at *;rw[if_pos hx];simp
 |y :: r,s,k+1,x,h,hz,hx=>by
  unfold chkF;have h0:=hz 0 y (by omega) rfl;rw[Nat.add_zero]at h0;rw[if_neg (by rw[h0];simp)]
  have e:s+1+k=s+(k+1):=by omega
  rw[chkF_at (s:=s+1) (k:=k) (by simpa using h) (fun j z hj hz2=>by rw[show s+1+j=s+(j+1) by omega];exact hz (j+1) z (by omega) (by simpa using hz2)) (by rw[e];exact hx),e]
theorem chkF_none{l:List RI}:∀ {r:List RI} {s:Nat},(∀(j:Nat) y,r[j]?=some y→chkI l (s+j) y=0)→chkF l r s=(0,-1)
 |[],s,_=>rfl
 |y :: r,s,h=>by
  unfold chkF;have h0:=h 0 y rfl;rw[Nat.add_zero]at h0;rw[if_neg (by rw[h0];simp)]
  exact chkF_none fun j z hz=>by rw[show s+1+j=s+(j+1) by omega];exact h (j+1) z (by simpa using hz)
theorem labR_has{x:RI}:∀ {l:List RI} {s k:Nat},l[k]?=some x→x.op=opStr 17→∃q,labR x.to l s=some q
 |[],s,k,h,_=>by simp at h
 |y :: l,s,k,h,hx=>by
  unfold labR
  by_cases e:y.op=opStr 17∧y.to=x.to
  ·rw[if_pos e];exact ⟨s,rfl⟩
  ·rw[if_neg e]
   cases k with
   |zero=>cases h;exact absurd ⟨hx,rfl⟩ e
   |succ k=>exact labR_has (by simpa using h) hx
def ChkV(B:Nat)(w:World)(a:Nat→Addr)(r:Int × Int)(v:Value):Prop:=
 (r.1=0∧v=.nilIface)∨(r=(2,-1)∧v=errV a 1)∨
  (0<r.1∧r.1≤5∧0≤r.2∧∃g,v=.iface 89 (.pointer (some ⟨g,0,none⟩))∧B≤g∧w.heap[g]?=some (.cells #[.int .i64 r.2,errV a (r.1.toNat - 1)] 93 (0,0)))
theorem check_any(h:RCode w v l)(E:ErrsM w a)(hl:l.length≤maxLen) :
  Calls Tryz.prog 37 #[v] w fun e w'=>∃u,e=.returned u∧Mod noF w w'∧ChkV w.heap.size w' a (chkR l) u:=by
 have H:=Lib.hid h;have HE:=Lib.hid E;obtain ⟨⟨sa,sc,rfl,-⟩,-⟩:=h;have v1:=E.v1;clear E
 by_cases h2:2000<l.length
 ·have hd:decide ((2000:Int)<(l.length:Int))=true:=by simp;omega
  have hr:chkR l=(2,-1):=by unfold chkR;rw[if_pos h2]
  rw[hr];clear hr
  go_enter Tryz.func37,Tryz.ntmps37
  go_wp2;go_ret;exact ⟨_,rfl,Mod.refl _ _,.inr (.inl ⟨rfl,rfl⟩)⟩
 ·have hd:decide ((2000:Int)<(l.length:Int))=false:=by simp;omega
  have hr:chkR l=chkF l l 0:=by unfold chkR;rw[if_neg h2]
  rw[hr];clear hr
  go_enter Tryz.func37,Tryz.ntmps37
  go_wp2_with fail
  refine (labels_any H.out (by omega)).mono ?_;rintro e w1 ⟨rfl,hm1,hR1⟩;have Hm1:=Lib.hid hm1;have HR1:=Lib.hid hR1;clear hm1 hR1;go_wp2
  go_loopw [17,4,5,6,7,8] (fun i _ _ _ _ _ wr=>∃k:Nat,k≤l.length∧i=.int .i64 k∧Mod noF w1 wr∧∀(j:Nat) y,j<k→l[j]?=some y→chkI l j y=0) (fun i _ _ _ _ _ _=>l.length - (intOf i).toNat)
  case atStart=>exact ⟨0,Nat.zero_le _,rfl,Mod.refl _ _,fun j y h=>absurd h (by omega)⟩
  case round=>
   generalize wr=w2 at *;obtain ⟨k,hk,rfl,hm,hz⟩:=hrel;have Hm:=Lib.hid hm;have Hz:=Lib.hid hz;clear hm hz
   by_cases hlt:k<l.length
   ·have hd2:decide ((k:Int)<(l.length:Int))=true:=by simp;omega
    have hki:(k:Int)<(l.length:Int):=by omega
    obtain ⟨x,hx⟩:∃x,l[k]?=some x:=⟨_,List.getElem?_eq_getElem hlt⟩;obtain ⟨⟨a',c',e',hxx⟩,hok⟩:=(H.out.keep Hm1.out).keep Hm.out;cases e';obtain ⟨b,off,rfl,hb,c0,c1,c2,c3,c4⟩:=hxx k x hx;have hto:=hok x (List.mem_of_getElem? hx);have Hx:=Lib.hid hx
    obtain ⟨w3,hw3⟩:∃w3,w3=w2.alloc (.cells #[.string x.op,.int .i64 x.A,.int .i64 x.B,.int .i64 x.C,.string x.to] 73):=⟨_,rfl⟩
    have hm3:Mod noF w1 w3:=by rw[hw3];exact Hm.out.alloc _
    have d0:w3.cell? ⟨w2.heap.size,0,none⟩=some (.string x.op):=by rw[hw3];simp
    have d4:w3.cell? ⟨w2.heap.size,4,none⟩=some (.string x.to):=by rw[hw3];simp
    have E3:=(HE.out.keep Hm1.out).keep hm3;have hone:=one_any x hto E3;have Hone:=Lib.hid hone;have Hm3:=Lib.hid hm3;have HE3:=Lib.hid E3;clear hxx hok hx hm3 hone E3 v1
    go_wp2_with fail
    rw[←hw3];refine Hone.out.mono ?_;rintro e w4 ⟨rfl,hm4⟩;have v3:=(HE3.out.keep hm4).v3;have v4:=(HE3.out.keep hm4).v4;have x0:=hm4.cell d0 (fun e=>e);have x4:=hm4.cell d4 (fun e=>e);have hR4:=(HR1.out.keep (Hm3.out.trans0 hm4) (fun e=>e)).looks hto;obtain ⟨k1,k2⟩:=hR4
    have Hm4:=Lib.hid (Hm3.out.trans0 hm4);clear hm4 hw3 c0 c1 c2 c3 c4 d0 d4
    by_cases h0:oneE x=0
    ·rw[h0]
     have hci:chkI l k x=if x.op=opStr 17∧labR x.to l 0≠some k then 4 else if x.to.toList≠[]∧labR x.to l 0=none then 5 else 0:=by unfold chkI;rw[if_neg (by rw[h0];simp)]
     have herr:errC a 0=.nilIface:=rfl;rw[herr]
     have hcf:∀n,chkI l k x=n→n≠0→chkF l l 0=(n,(k:Int)):=fun n h1 h2=>by
      have:=chkF_at (s:=0) Hx.out (fun j y hj hy=>by rw[Nat.zero_add];exact Hz.out j y hj hy) (by rw[Nat.zero_add,h1];exact h2);rw[Nat.zero_add,h1]at this;exact this
     clear herr h0
     by_cases hop:x.op=opStr 17
     ·obtain ⟨q,hq⟩:=labR_has (s:=0) Hx.out hop;have hop2:x.op=⟨#[108,97,98,101,108]⟩:=hop;rw[hq]at k1 k2 hci;rw[hop2]at x0;simp only[Option.getD_some,Option.isSome_some]at k1 k2
      by_cases hqk:q=k
      ·subst hqk;rw[if_neg (fun g=>g.2 rfl),if_neg (fun g=>by cases g.2)]at hci;have Hci:=Lib.hid hci;clear hci hcf hop hop2 hq
       by_cases hE:x.to.toList=[]
       ·have e1:(x.to.toList==[])=true:=by rw[hE];rfl
        have e2:x.to.toList.isEmpty=true:=by rw[hE];rfl
        go_wp2;refine ⟨⟨q+1,by omega,by go_num,Hm4.out,fun j y hj hy=>?_⟩,by simp[intOf];omega⟩
        by_cases e:j=q
        ·subst e;rw[Hx.out]at hy;cases hy;exact Hci.out
        ·exact Hz.out j y (by omega) hy
       ·have e1:(x.to.toList==[])=false:=by rw[beq_eq_false_iff_ne];exact hE
        have e2:x.to.toList.isEmpty=false:=by cases h:x.to.toList with|nil=>exact absurd h hE|cons _ _=>rfl
        go_wp2;refine ⟨⟨q+1,by omega,by go_num,Hm4.out,fun j y hj hy=>?_⟩,by simp[intOf];omega⟩
        by_cases e:j=q
        ·subst e;rw[Hx.out]at hy;cases hy;exact Hci.out
        ·exact Hz.out j y (by omega) hy
      ·rw[if_pos ⟨hop,fun g=>hqk (Option.some.inj g)⟩]at hci;have Hcf:=Lib.hid (hcf 4 hci (by decide))
       have n1:((q:Int)==(k:Int))=false:=by rw[beq_eq_false_iff_ne];omega
       have n2:¬(q:Int)=(k:Int):=by omega
       have n3:(q==k)=false:=by rw[beq_eq_false_iff_ne];exact hqk
       clear hci hcf hop hop2 hq;go_wp2;go_ret;refine ⟨_,rfl,(Hm1.out.trans0 Hm4.out).alloc _,?_⟩;rw[Hcf.out];exact .inr (.inr ⟨by simp,by simp,Int.natCast_nonneg _,_,rfl,(Hm1.out.trans0 Hm4.out).size,heap_alloc_new _ _⟩)
     ·obtain ⟨e0,f0⟩:(x.op.toList==[108,97,98,101,108])=false∧¬x.op.toList=[108,97,98,101,108]:=by
       have h1:¬x.op.toList=[108,97,98,101,108]:=fun e=>hop (ByteArray.ext (Array.toList_inj.1 (by rw[←ByteArray.toList_eq,e];rfl)));exact ⟨by rw[beq_eq_false_iff_ne];exact h1,h1⟩
      rw[if_neg (fun g=>hop g.1)]at hci;clear hop
      by_cases hE:x.to.toList=[]
      ·have e1:(x.to.toList==[])=true:=by rw[hE];rfl
       have e2:x.to.toList.isEmpty=true:=by rw[hE];rfl
       rw[if_neg (fun g=>g.1 hE)]at hci;have Hci:=Lib.hid hci;clear hci hcf;generalize (labR x.to l 0).isSome=iz at *;go_wp2;refine ⟨⟨k+1,by omega,by go_num,Hm4.out,fun j y hj hy=>?_⟩,by simp[intOf];omega⟩
       by_cases e:j=k
       ·subst e;rw[Hx.out]at hy;cases hy;exact Hci.out
       ·exact Hz.out j y (by omega) hy
      ·have e1:(x.to.toList==[])=false:=by rw[beq_eq_false_iff_ne];exact hE
       have e2:x.to.toList.isEmpty=false:=by cases h:x.to.toList with|nil=>exact absurd h hE|cons _ _=>rfl
       cases hq:labR x.to l 0 with
       |none=>
        rw[hq]at k1 k2 hci;rw[if_pos ⟨hE,rfl⟩]at hci;simp only[Option.getD_none,Option.isSome_none]at k1 k2;have Hcf:=Lib.hid (hcf 5 hci (by decide));clear hci hcf hq;go_wp2;go_ret;refine ⟨_,rfl,(Hm1.out.trans0 Hm4.out).alloc _,?_⟩;rw[Hcf.out]
        exact .inr (.inr ⟨by simp,by simp,Int.natCast_nonneg _,_,rfl,(Hm1.out.trans0 Hm4.out).size,heap_alloc_new _ _⟩)
       |some q=>
        rw[hq]at k1 k2 hci;rw[if_neg (fun g=>by cases g.2)]at hci;simp only[Option.getD_some,Option.isSome_some]at k1 k2;have Hci:=Lib.hid hci;clear hci hcf hq;go_wp2;refine ⟨⟨k+1,by omega,by go_num,Hm4.out,fun j y hj hy=>?_⟩,by simp[intOf];omega⟩
        by_cases e:j=k
        ·subst e;rw[Hx.out]at hy;cases hy;exact Hci.out
        ·exact Hz.out j y (by omega) hy
    ·have hci:chkI l k x=oneE x:=by unfold chkI;rw[if_pos h0]
     have hen:0<oneE x∧oneE x≤4:=by have:=@one_neg x;omega
     have hee:errC a (oneE x)=errV a ((oneE x).toNat - 1):=by unfold errC;rw[if_neg h0]
     rw[hee];have hcf:=chkF_at (s:=0) Hx.out (fun j y hj hy=>by rw[Nat.zero_add];exact Hz.out j y hj hy) (by rw[Nat.zero_add,hci];exact h0);rw[Nat.zero_add,hci]at hcf;have Hcf:=Lib.hid hcf;have Hen:=Lib.hid hen;unfold errV;clear hcf hci h0 hee hen;go_wp2;go_ret
     refine ⟨_,rfl,(Hm1.out.trans0 Hm4.out).alloc _,?_⟩;rw[Hcf.out];exact .inr (.inr ⟨Hen.out.1,by have:=Hen.out;show oneE x≤5;omega,Int.natCast_nonneg _,_,rfl,(Hm1.out.trans0 Hm4.out).size,heap_alloc_new _ _⟩)
   ·have hd2:decide ((k:Int)<(l.length:Int))=false:=by simp;omega
    have hr:chkF l l 0=(0,-1):=chkF_none fun j y hy=>by rw[Nat.zero_add];exact Hz.out j y (by have:=(List.getElem?_eq_some_iff.1 hy).1;omega) hy
    go_wp2;go_ret;exact ⟨_,rfl,Hm1.out.trans0 Hm.out,by rw[hr];exact .inl ⟨rfl,rfl⟩⟩
end
section
open Go.RowKit Qs Qh
theorem insInfoP:(Tryz.prog.info? 73).map (fun i=>(i.zero,i.size,i.bytes))=some (some (.agg #[.string ⟨#[]⟩,.int .i64 0,.int .i64 0,.int .i64 0,.string ⟨#[]⟩]),5,56):=by kernel_rfl
theorem info_partsP{P:Program}{t:TypeId}{z:Option Value}{s b:Nat}(h:(P.info? t).map (fun i=>(i.zero,i.size,i.bytes))=some (z,s,b)):∃i,P.info? t=some i∧i.zero=z∧i.size=s∧i.bytes=b:=by
 cases e:P.info? t with
 |none=>rw[e]at h;cases h
 |some i=>
  rw[e]at h;simp only[Option.map_some,Option.some.injEq,Prod.mk.injEq]at h;exact ⟨i,rfl,h.1,h.2.1,h.2.2⟩
theorem ins_cells{w:World}{sa:Addr}{c:List Instr}(hx:∀(i:Nat) x,(c.map rawI)[i]?=some x→∃b off,some sa=some ⟨b,off,none⟩∧b<w.heap.size∧w.cell? ⟨b,off+i*5,none⟩=some (.string x.op)∧w.cell? ⟨b,off+i*5+1,none⟩=some (.int .i64 x.A)∧
  w.cell? ⟨b,off+i*5+2,none⟩=some (.int .i64 x.B)∧w.cell? ⟨b,off+i*5+3,none⟩=some (.int .i64 x.C)∧w.cell? ⟨b,off+i*5+4,none⟩=some (.string x.to)) :
  ∀j u,(flat insV 0 c)[j]?=some u→w.cell? (sa.add j)=some u:=fun j u hj=>by
 have hl:(flat insV 0 c).length=c.length*5:=flat_length insV 5 (fun _ _=>rfl) c 0;have hlt:=(List.getElem?_eq_some_iff.1 hj).1;rw[hl]at hlt;obtain ⟨i,r,hr,rfl⟩:∃i r,r<5∧j=i*5+r:=⟨j/5,j % 5,by omega,by omega⟩
 have hic:i<c.length:=by omega
 obtain ⟨y,hy⟩:∃y,c[i]?=some y:=⟨_,List.getElem?_eq_getElem hic⟩;obtain ⟨b,off,e,hb,h0,h1,h2,h3,h4⟩:=hx i (rawI y) (by rw[List.getElem?_map,hy];rfl);cases e;have hg:=flat_get insV 5 (fun _ _=>rfl) hr c 0 i y hy [];rw[List.append_nil]at hg;rw[hg]at hj
 have hadd:∀k,(⟨b,off,none⟩:Addr).add k=⟨b,off+k,none⟩:=fun k=>by unfold Addr.add;split <;> simp_all
 rw[hadd]
 rcases (by omega:r=0∨r=1∨r=2∨r=3∨r=4)with rfl|rfl|rfl|rfl|rfl
 ·cases hj;exact h0
 ·cases hj;exact h1
 ·cases hj;exact h2
 ·cases hj;exact h3
 ·cases hj;exact h4
theorem clone_code{w:World}{v:Value}{c:List Instr}(h:RCode w v (c.map rawI))(hl:c.length≤2000) :
  Calls Tryz.prog 39 #[v] w fun e w'=>∃v',e=.returned v'∧InsRow 73 w' v' c∧Mod noF w w'∧∀g,v'.ownBlock=some g→w.heap.size≤g:=by
 have qT:∀(w:World) (a:Option Addr) (n c n' c':Nat),(binOp .eql 46 (.slice a n c) (.slice none n' c')).run Tryz.prog w=.ok (.bool a.isNone) w:=fun w a n c n' c'=>Lib.run_eql_slice_nil w _ _ a n c n' c' Tryz.underlying46;obtain ⟨i0,hi,hz0,hz1,hz2⟩:=info_partsP insInfoP
 obtain ⟨⟨sa,sc,rfl,hx⟩,-⟩:=h;rw[List.length_map]at *
 cases sa with
 |none=>
  obtain rfl:c=[]:=by
   cases c with
   |nil=>rfl
   |cons y c=>obtain ⟨b,off,e,-⟩:=hx 0 (rawI y) rfl;cases e
  clear hx
  go_enter Tryz.func39,Tryz.ntmps39
  go_wp2;go_ret;exact ⟨_,rfl,⟨rfl,.inl ⟨rfl,rfl⟩⟩,Mod.refl _ _,by simp[Value.ownBlock]⟩
 |some sa=>
  have Hsrc:=Lib.hid (ins_cells hx);have hlen:(flat insV 0 c).length=c.length*5:=flat_length insV 5 (fun _ _=>rfl) c 0;have Hlen:=Lib.hid hlen
  have Hone:=Lib.hid (show ∀u∈flat insV 0 c,u.oneCell'=true from fun u hu=>by
   obtain ⟨j,hj⟩:=List.getElem?_of_mem hu;have hlt:=(List.getElem?_eq_some_iff.1 hj).1;rw[hlen]at hlt;obtain ⟨i,r,hr,rfl⟩:∃i r,r<5∧j=i*5+r:=⟨j/5,j % 5,by omega,by omega⟩
   have hic:i<c.length:=by omega
   obtain ⟨y,hy⟩:∃y,c[i]?=some y:=⟨_,List.getElem?_eq_getElem hic⟩;have hg:=flat_get insV 5 (fun _ _=>rfl) hr c 0 i y hy [];rw[List.append_nil]at hg;rw[hg]at hj
   rcases (by omega:r=0∨r=1∨r=2∨r=3∨r=4)with rfl|rfl|rfl|rfl|rfl <;> (cases hj;rfl))
  have hbnd:0+c.length≤maxLen:=by unfold maxLen;omega
  have hbnd2:(0+c.length)*56≤140737488355328:=by omega
  clear hx hlen
  go_enter Tryz.func39,Tryz.ntmps39
  go_wp2_with (at_builtin;refine wpList_append_mine _ rfl (.tmp 5) (.tmp 6) 46 rfl 73 i0 (.agg #[.string ⟨#[]⟩,.int .i64 0,.int .i64 0,.int .i64 0,.string ⟨#[]⟩]) 5 56 Tryz.underlying46 hi hz0 hz1 hz2 rfl (by decide) (.slice (some ⟨w.heap.size,0,none⟩) 0 0) 0 [] rfl (World.ownsRow_made w #[] 0 (Nat.zero_le _) (by decide) rfl) sa c.length sc (flat insV 0 c) rfl Hlen.out (fun j u hj=>(Mod.refl noF w |>.alloc _).cell (Hsrc.out j u hj) (fun e=>e)) Hone.out hbnd hbnd2 ?_;intro v2 w2 hown2 hgr2 hfr2 hz2';have hm2:Mod noF w w2:=((Mod.refl noF w).alloc (.cells #[] 73)).grown hgr2 (fun k hk hlt=>by simp[Value.ownBlock]at hk;omega);have Hm2:=Lib.hid hm2;have Hown2:=Lib.hid hown2;have Hfr2:=Lib.hid hfr2;clear hm2 hown2 hgr2 hfr2 hz2')
  go_ret;refine ⟨_,rfl,?_,Hm2.out,fun k hk=>?_⟩
  ·have:=Hown2.out
   rwa [Nat.zero_add,List.nil_append]at this
  ·rcases Hfr2.out k hk with e|e
   ·simp[Value.ownBlock]at e;omega
   ·simp at e;omega
end
section
open Go.RowKit Qs Qh
variable {w w1 w2 w':World}{X:XB}{vs vs':List Value}{mv mv':Value}{m m':M}{N:Int}
theorem PMach.setPcQ(h:PMach w X vs mv m){t:Nat}{k:Thr}(ht:m.T[t]?=some k)(p:Nat):XUp w X vs mv m (w.setCell ⟨X.bL,t*11+10,none⟩ (.int .i64 (p:Int))) (m.setPc t p) vs mv:=by
 have:=h.setThr (j:=10) (k':={k with pc:=p}) (v:=.int .i64 (p:Int)) ht (by decide) rfl rfl;unfold M.setPc;rw[modify_get _ ht];exact this
theorem regs_set{l:List Int}{a:Nat}(ha:a<l.length)(v:Int)(i:Nat):(l.set a v).getD i 0=if i=a then v else l.getD i 0:=by
 rw[List.getD_eq_getElem?_getD,List.getD_eq_getElem?_getD,List.getElem?_set]
 by_cases e:a=i
 ·subst e;rw[if_pos rfl,if_pos ha,if_pos rfl];rfl
 ·rw[if_neg e,if_neg fun g=>e g.symm]
theorem PMach.setRegQ(h:PMach w X vs mv m){t:Nat}{k:Thr}(ht:m.T[t]?=some k)(h8:k.regs.length=8){a:Nat}(ha:a<8)(v:Int):XUp w X vs mv m (w.setCell ⟨X.bL,t*11+2+a,none⟩ (.int .i64 v)) (m.setReg t (a:Int) v) vs mv:=by
 have:=h.setThr (j:=2+a) (k':={k with regs:=k.regs.set a v}) (v:=.int .i64 v) ht (by omega) (by
  have hr:=fun i=>regs_set (l:=k.regs) (a:=a) (by omega) v i
  rcases (by omega:a=0∨a=1∨a=2∨a=3∨a=4∨a=5∨a=6∨a=7)with rfl|rfl|rfl|rfl|rfl|rfl|rfl|rfl <;> (unfold tVals;simp only[hr];rfl)) rfl
 unfold M.setReg;rw[modify_get _ ht,show ((a:Int).toNat)=a from by simp,show t*11+2+a=t*11+(2+a) by omega];exact this
theorem PMach.reg_at(h:PMach w X vs mv m){t:Nat}{k:Thr}(ht:m.T[t]?=some k){a:Nat}(ha:a<8):w.cell? ⟨X.bL,t*11+2+a,none⟩=some (.int .i64 (k.regs.getD a 0)):=by
 have h1:=(h.thr_at ht).1 (2+a) (.int .i64 (k.regs.getD a 0)) (by
  rcases (by omega:a=0∨a=1∨a=2∨a=3∨a=4∨a=5∨a=6∨a=7)with rfl|rfl|rfl|rfl|rfl|rfl|rfl|rfl <;> rfl)
 rw[show t*11+2+a=t*11+(2+a) by omega];exact h1
theorem PX.regW(h:PX w X vs mv m N){t:Nat}{k:Thr}(ht:m.T[t]?=some k){a:Nat}(ha:a<8):isWord (k.regs.getD a 0)=true:=by
 obtain ⟨h1,h2⟩:=h.ot.regs t k ht
 have hl:a<k.regs.length:=by omega
 rw[List.getD_eq_getElem?_getD,List.getElem?_eq_getElem hl];exact h2 _ (List.getElem_mem hl)
end
section
open Go.RowKit Qs Qh
def newT(_:Nat)(p:Value × Nat):List Value:=[p.1,.map (some p.2),iv 0,iv 0,iv 0,iv 0,iv 0,iv 0,iv 0,iv 0,iv 0]
theorem flat_newT_snoc(p:Value × Nat):∀(l:List (Value × Nat)) (s:Nat),flat newT s (l++[p])=flat newT s l++newT 0 p
 |[],s=>by simp[flat];rfl
 |x :: l,s=>by
  have:=flat_newT_snoc p l (s+1);simp only[List.cons_append,flat,this,List.append_assoc]
structure NewP(w0 w:World)(bX:Nat)(P:PB)(l:List Cell)(t:Nat)(v:Value)(ps:List (Value × Nat))(cs:List (List Instr)):Prop where
 base:Mod noF w0 w
 top:w.heap[bX]?=some (.cells #[.pointer (some ⟨P.bM,0,none⟩),v,.slice none 0 0,.int .i64 0] 87 (0,0))
 lo:w0.heap.size≤bX
 mem:PMV w P l (List.replicate t []) (List.replicate t (.slice none 0 0))
 mlo:∀x,PFoot P (List.replicate t (.slice none 0 0)) x→w0.heap.size≤x∧x≠bX
 row:w.ownsRow 0 99 11 v ps.length (flat newT 0 ps)
 vlo:∀g,v.ownBlock=some g→w0.heap.size≤g∧g≠bX∧¬PFoot P (List.replicate t (.slice none 0 0)) g
 len:ps.length=cs.length
 code:∀(i:Nat) p c,ps[i]?=some p→cs[i]?=some c→CodeAt w p.1 c∧LabMap w p.2 c
 clo:∀(i:Nat) p,ps[i]?=some p→(∀g,p.1.ownBlock=some g→(w0.heap.size≤g∧g≠bX∧¬PFoot P (List.replicate t (.slice none 0 0)) g∧¬v.ownBlock=some g)∧g<w.heap.size)∧
  (w0.heap.size≤p.2∧p.2≠bX∧¬PFoot P (List.replicate t (.slice none 0 0)) p.2∧¬v.ownBlock=some p.2)
variable {w0 w w1 w2 w3 w':World}{bX:Nat}{P:PB}{l:List Cell}{t:Nat}{v v':Value}{ps:List (Value × Nat)}{cs:List (List Instr)}
theorem rowMod{w w':World}{T:TypeId}{sz k:Nat}{v:Value}{xs:List Value}{F:Nat→Prop}(h:w.ownsRow 0 T sz v k xs)(hM:Mod F w w')(hF:∀g,v.ownBlock=some g→¬F g):w'.ownsRow 0 T sz v k xs:=by
 refine ⟨h.1,?_⟩
 rcases h.2 with e|⟨g,cap,cur,rfl,h0,hg,r⟩
 ·exact .inl e
 ·exact .inr ⟨g,cap,cur,rfl,h0,hM.heap hg (hF g rfl),r⟩
theorem NewP.keep0(h:NewP w0 w bX P l t v ps cs)(hM:Mod noF w w'):NewP w0 w' bX P l t v ps cs:=
 ⟨h.base.trans0 hM,hM.heap h.top (fun e=>e),h.lo,h.mem.keep0 hM,h.mlo,rowMod h.row hM (fun _ _ e=>e),h.vlo,h.len,
  fun i p c hp hc=>⟨(h.code i p c hp hc).1.frame hM (fun _ _ e=>e),(h.code i p c hp hc).2.keep hM (fun e=>e)⟩,
  fun i p hp=>⟨fun g hg=>⟨((h.clo i p hp).1 g hg).1,Nat.lt_of_lt_of_le ((h.clo i p hp).1 g hg).2 hM.size⟩,(h.clo i p hp).2⟩⟩
theorem NewP.start(hP:PMV w P l (List.replicate t []) (List.replicate t (.slice none 0 0)))(hM:Mod noF w0 w)(hF:∀x,PFoot P (List.replicate t (.slice none 0 0)) x→w0.heap.size≤x) :
  NewP w0 (w.alloc (.cells #[.pointer (some ⟨P.bM,0,none⟩),.slice none 0 0,.slice none 0 0,.int .i64 0] 87)) w.heap.size P l t (.slice none 0 0) [] []:=by
 have hq:=(Mod.refl noF w).alloc (.cells #[.pointer (some ⟨P.bM,0,none⟩),.slice none 0 0,.slice none 0 0,.int .i64 0] 87)
 refine ⟨hM.alloc _,heap_alloc_new w _,hM.size,hP.keep0 hq,fun x hx=>⟨hF x hx,fun e=>by have:=hP.lt hx;omega⟩,World.ownsRow_nil _ 0 _ 11,fun g h=>by simp[Value.ownBlock]at h,rfl,fun i p c h=>by simp at h,fun i p h=>by simp at h⟩
theorem NewP.next(h:NewP w0 w bX P l t v ps cs){p:Value × Nat}{c:List Instr}(hM1:Mod noF w w1)(hc:CodeAt w1 p.1 c)(hl:LabMap w1 p.2 c)(hp1:∀g,p.1.ownBlock=some g→w.heap.size≤g∧g<w1.heap.size)(hp2:w.heap.size≤p.2)
  (hown:w3.ownsRow 0 99 11 v' (ps.length+1) (flat newT 0 ps++newT 0 p)) (hM3:Mod (fun x=>v.ownBlock=some x) w1 w3) (hfr:∀g,v'.ownBlock=some g→v.ownBlock=some g∨w1.heap.size≤g) :
  NewP w0 (w3.setCell ⟨bX,1,none⟩ v') bX P l t v' (ps++[p]) (cs++[c]):=by
 have hbX:=lt_of_block h.top;have hs1:=hM1.size;have hM13:Mod (fun x=>v.ownBlock=some x) w w3:=hM1.any.trans hM3 (fun _ _ e=>e);have hlw:p.2<w1.heap.size:=hl.lt;have hM4:Mod (fun x=>x=bX) w3 (w3.setCell ⟨bX,1,none⟩ v'):=(Mod.refl (fun x=>x=bX) w3).setCell (fun _=>rfl) _
 have hMM:Mod (fun x=>v.ownBlock=some x∨x=bX) w (w3.setCell ⟨bX,1,none⟩ v'):=(hM13.mono fun _ _ e=>.inl e).trans hM4 (fun _ _ e=>.inr e);have hMM1:Mod (fun x=>v.ownBlock=some x∨x=bX) w1 (w3.setCell ⟨bX,1,none⟩ v'):=(hM3.mono fun _ _ e=>.inl e).trans hM4 (fun _ _ e=>.inr e);have hs0:=h.base.size
 have htop3:=hM13.heap h.top (fun e=>(h.vlo _ e).2.1 rfl)
 have hv':∀g,v'.ownBlock=some g→w0.heap.size≤g∧g≠bX∧¬PFoot P (List.replicate t (.slice none 0 0)) g:=fun g hg=>by
  rcases hfr g hg with e|e
  ·exact h.vlo g e
  ·exact ⟨by omega,by omega,fun e2=>by have:=h.mem.lt e2;omega⟩
 have hnv:∀g,g<w1.heap.size→¬v.ownBlock=some g→¬v'.ownBlock=some g:=fun g hg hn e=>(hfr g e).elim hn (fun e2=>by omega);have hvlt:∀g,v.ownBlock=some g→g<w.heap.size:=fun g hg=>(World.ownsRow.lt h.row g hg).2;have hsz:=hMM.size;have hsz1:=hMM1.size
 refine ⟨h.base.trans hMM (fun x hx e=>?_),?_,h.lo,h.mem.keep hMM (fun x hx e=>?_),h.mlo,?_,hv',by simp[h.len],fun i q d hq hd=>?_,fun i q hq=>?_⟩
 ·rcases e with e|e
  ·have:=(h.vlo x e).1;omega
  ·have:=h.lo;omega
 ·rw[Qh.heap_setCell_same htop3];simp
 ·rcases e with e|e
  ·exact (h.vlo x e).2.2 hx
  ·exact (h.mlo x hx).2 e
 ·rw[List.length_append,List.length_singleton,flat_newT_snoc];exact rowMod hown hM4 (fun g hg=>(hv' g hg).2.1)
 ·rw[List.getElem?_append]at hq hd
  by_cases e:i<ps.length
  ·rw[if_pos e]at hq;rw[if_pos (by rw[←h.len];exact e)]at hd;obtain ⟨a,b⟩:=h.code i q d hq hd;obtain ⟨c1,c2⟩:=h.clo i q hq;exact ⟨a.frame hMM (fun g hg e=>e.elim ((c1 g hg).1.2.2.2) (c1 g hg).1.2.1),b.keep hMM (fun e=>e.elim c2.2.2.2 c2.2.1)⟩
  ·rw[if_neg e]at hq;rw[if_neg (by rw[←h.len];exact e)]at hd
   have e0:i - ps.length=0:=by have:=(List.getElem?_eq_some_iff.1 hq).1;simp at this;omega
   rw[e0]at hq;rw[←h.len,e0]at hd;cases hq;cases hd;refine ⟨hc.frame hMM1 (fun g hg e=>?_),hl.keep hMM1 (fun e=>?_)⟩
   ·have:=(hp1 g hg).1
    rcases e with e|e
    ·have:=hvlt g e;omega
    ·omega
   ·rcases e with e|e
    ·have:=hvlt _ e;omega
    ·omega
 ·rw[List.getElem?_append]at hq
  by_cases e:i<ps.length
  ·rw[if_pos e]at hq;obtain ⟨c1,c2⟩:=h.clo i q hq;refine ⟨fun g hg=>⟨⟨(c1 g hg).1.1,(c1 g hg).1.2.1,(c1 g hg).1.2.2.1,hnv g (by have:=(c1 g hg).2;omega) (c1 g hg).1.2.2.2⟩,by have:=(c1 g hg).2;omega⟩,c2.1,c2.2.1,c2.2.2.1,?_⟩
   obtain ⟨d,hd⟩:∃d,cs[i]?=some d:=⟨_,List.getElem?_eq_getElem (by rw[←h.len];exact e)⟩;have:=(h.code i q d hq hd).2.lt;exact hnv _ (by omega) c2.2.2.2
  ·rw[if_neg e]at hq
   have e0:i - ps.length=0:=by have:=(List.getElem?_eq_some_iff.1 hq).1;simp at this;omega
   rw[e0]at hq;cases hq
   have hfoot:∀g,w.heap.size≤g→¬PFoot P (List.replicate t (.slice none 0 0)) g:=fun g hg e2=>by have:=h.mem.lt e2;omega
   refine ⟨fun g hg=>?_,by omega,by omega,hfoot _ hp2,hnv _ hlw (fun e=>by have:=hvlt _ e;omega)⟩;obtain ⟨k1,k2⟩:=hp1 g hg;exact ⟨⟨by omega,by omega,hfoot g k1,hnv g k2 (fun e=>by have:=hvlt _ e;omega)⟩,by omega⟩
def newX(bX:Nat)(P:PB)(bL cap:Nat)(ps:List (Value × Nat)):XB:=
 ⟨bX,bL,cap,P,fun i=>(ps.getD i (.slice none 0 0,0)).1,fun i=>(ps.getD i (.slice none 0 0,0)).2⟩
def newThr(c:List Instr):Thr:=⟨c,[0,0,0,0,0,0,0,0],0⟩
theorem NewP.mach(h:NewP w0 w bX P l t v ps cs)(h0:0<ps.length):∃bL cap,v=.slice (some ⟨bL,0,none⟩) ps.length cap∧
  PMach w (newX bX P bL cap ps) (List.replicate t (.slice none 0 0)) (.slice none 0 0) ⟨l,List.replicate t [],cs.map newThr,[],0⟩∧
  (∀x,XFoot (newX bX P bL cap ps) (List.replicate t (.slice none 0 0)) (.slice none 0 0) x→w0.heap.size≤x)∧
  (∀(i:Nat) p,ps[i]?=some p→(∀g,p.1.ownBlock=some g→w0.heap.size≤g)∧w0.heap.size≤p.2):=by
 rcases h.row.2 with ⟨-,e⟩|⟨g,cap,cur,rfl,-,hg,h1,h2,h3,h4⟩
 ·omega
 ·have hgd:∀(i:Nat) p,ps[i]?=some p→(newX bX P g cap ps).cv i=p.1∧(newX bX P g cap ps).mb i=p.2:=fun i p hp=>by simp[newX,List.getD,hp]
  have hv:=h.vlo g rfl
  have hT:∀(i:Nat) k,(cs.map newThr)[i]?=some k→∃c p,cs[i]?=some c∧ps[i]?=some p∧k=newThr c:=fun i k hk=>by
   rw[List.getElem?_map]at hk;obtain ⟨c,hc,rfl⟩:=Option.map_eq_some_iff.1 hk;have hi:=(List.getElem?_eq_some_iff.1 hc).1;exact ⟨c,_,hc,List.getElem?_eq_getElem (by rw[h.len];exact hi),rfl⟩
  have hxf:∀x,XFoot (newX bX P g cap ps) (List.replicate t (.slice none 0 0)) (.slice none 0 0) x→x=bX∨x=g∨PFoot P (List.replicate t (.slice none 0 0)) x:=fun x hx=>by
   rcases hx with e|e|e|e
   ·exact .inl e
   ·exact .inr (.inl e)
   ·exact .inr (.inr e)
   ·simp[Value.ownBlock]at e
  refine ⟨g,cap,rfl,⟨?_,⟨cur.toList.drop (ps.length*11),?_⟩,h.mem,fun i k hk=>?_,fun i k hk=>?_,offRow_nil _ _ _,⟨fun e=>hv.2.1 e.symm,fun e=>(h.mlo _ e).2 rfl,hv.2.2⟩,fun y hy=>by simp[Value.ownBlock]at hy⟩,fun x hx=>?_,fun i p hp=>⟨fun y hy=>((h.clo i p hp).1 y hy).1.1,(h.clo i p hp).2.1⟩⟩
  ·have:=h.top;rw[h.len]at this
   simpa[newX]using this
  ·have e:flat (tVals (newX bX P g cap ps)) 0 (cs.map newThr)=flat newT 0 ps:=flat_congr2 _ _ 0 (by simp[h.len]) fun i k p hk hp=>by
    obtain ⟨c,p',hc,hp',rfl⟩:=hT i k hk;rw[hp]at hp';cases hp';obtain ⟨e1,e2⟩:=hgd i p hp;rw[Nat.zero_add];unfold tVals;rw[e1,e2];rfl
   rw[e,←h4,List.take_append_drop];show w.heap[g]?=_
   simpa using hg
  ·obtain ⟨c,p,hc,hp,rfl⟩:=hT i k hk;obtain ⟨e1,e2⟩:=hgd i p hp;rw[e1];refine ⟨(h.code i p c hp hc).1,fun y hy=>⟨fun e=>?_,((h.clo i p hp).1 y hy).2⟩⟩;obtain ⟨⟨k1,k2,k3,k4⟩,-⟩:=(h.clo i p hp).1 y hy
   rcases hxf y e with e|e|e
   ·exact k2 e
   ·exact k4 (by rw[e];rfl)
   ·exact k3 e
  ·obtain ⟨c,p,hc,hp,rfl⟩:=hT i k hk;obtain ⟨e1,e2⟩:=hgd i p hp;rw[e2];refine ⟨(h.code i p c hp hc).2,fun e=>?_⟩;obtain ⟨k1,k2,k3,k4⟩:=(h.clo i p hp).2
   rcases hxf _ e with e|e|e
   ·exact k2 e
   ·exact k4 (by rw[e];rfl)
   ·exact k3 e
  ·rcases hxf x hx with e|e|e
   ·rw[e];exact h.lo
   ·rw[e];exact hv.1
   ·exact (h.mlo x e).1
end
section
open Go.RowKit Qs Qh
variable {w0 w w1 w2 w3 w':World}{bX bA gA:Nat}{l:List Cell}{ws:List (List Wt)}{v v':Value}{us:List Value}
theorem ne_types{g h:Nat}{c d:Array Value}{T U:TypeId}(hg:w.heap[g]?=some (.cells c T (0,0)))(hh:w.heap[h]?=some (.cells d U (0,0)))(hT:T≠U):g≠h:=fun e=>by
 subst e;rw[hg]at hh;cases hh;exact hT rfl
theorem off_blk{T:TypeId}{n size:Nat}{v:Value}{xs:List Value}(h:offRow w T size v n xs){g:Nat}(hg:v.ownBlock=some g):∃c,w.heap[g]?=some (.cells c T (0,0)):=by
 rcases h.2 with ⟨rfl,_⟩|⟨g',s,cap,cur,rfl,hg',_⟩
 ·simp[Value.ownBlock]at hg
 ·simp[Value.ownBlock]at hg;subst hg;exact ⟨_,hg'⟩
theorem row_blk{T:TypeId}{n size:Nat}{v:Value}{xs:List Value}(h:w.ownsRow 0 T size v n xs){g:Nat}(hg:v.ownBlock=some g):∃c,w.heap[g]?=some (.cells c T (0,0)):=off_blk (own_off h) hg
structure MCp(w0 w:World)(bX bA gA:Nat)(l:List Cell)(ws:List (List Wt))(v:Value)(us:List Value):Prop where
 base:Mod noF w0 w
 top:w.heap[bX]?=some (.cells #[.pointer (some ⟨bA,0,none⟩),v] 107 (0,0))
 lo:w0.heap.size≤bX∧w0.heap.size≤bA∧w0.heap.size≤gA
 ar:AAt w bA gA l
 row:w.ownsRow 0 180 1 v us.length us
 vlo:∀g,v.ownBlock=some g→w0.heap.size≤g
 rows:∀(t:Nat) u q,us[t]?=some u→ws[t]?=some q→waitRow w u q
 len:us.length≤ws.length
 ulo:∀u∈us,∀g,u.ownBlock=some g→w0.heap.size≤g
 sep:∀(i j:Nat) u x g,us[i]?=some u→us[j]?=some x→u.ownBlock=some g→x.ownBlock=some g→i=j
theorem MCp.start(A:AAt w1 bA gA l)(hm:Mod noF w0 w1)(hb:w0.heap.size≤bA)(hg:w0.heap.size≤gA) :
  MCp w0 (w1.alloc (.cells #[.pointer (some ⟨bA,0,none⟩),.slice none 0 0] 107)) w1.heap.size bA gA l ws (.slice none 0 0) []:=
 ⟨hm.alloc _,heap_alloc_new w1 _,⟨hm.size,hb,hg⟩,A.keep0 ((Mod.refl noF w1).alloc _),World.ownsRow_nil _ 0 _ 1,fun g h=>by simp[Value.ownBlock]at h,fun t u q h=>by simp at h,Nat.zero_le _,fun u h=>(List.not_mem_nil h).elim,fun i j u x g h=>by simp at h⟩
theorem MCp.lt(h:MCp w0 w bX bA gA l ws v us){t:Nat}{u:Value}(hu:us[t]?=some u){g:Nat}(hg:u.ownBlock=some g):g<w.heap.size∧∃c,w.heap[g]?=some (.cells c 182 (0,0)):=by
 have ht:t<ws.length:=Nat.lt_of_lt_of_le (List.getElem?_eq_some_iff.1 hu).1 h.len;have hr:=h.rows t u _ hu (List.getElem?_eq_getElem ht);exact ⟨hr.lt g hg,off_blk hr hg⟩
theorem MCp.next(h:MCp w0 w bX bA gA l ws v us){u:Value}{q:List Wt}(hq:ws[us.length]?=some q)(hM1:Mod noF w w1)(hu:waitRow w1 u q)(huf:∀g,u.ownBlock=some g→w.heap.size≤g)
  (hown:w3.ownsRow 0 180 1 v' (us.length+1) (us++[u])) (hM3:Mod (fun x=>v.ownBlock=some x) w1 w3) (hfr:∀g,v'.ownBlock=some g→v.ownBlock=some g∨w1.heap.size≤g) :
  MCp w0 (w3.setCell ⟨bX,1,none⟩ v') bX bA gA l ws v' (us++[u]):=by
 have hbX:=lt_of_block h.top;have hs1:=hM1.size;have hs0:=h.base.size;have hM13:Mod (fun x=>v.ownBlock=some x) w w3:=hM1.any.trans hM3 (fun _ _ e=>e);have hM4:Mod (fun x=>x=bX) w3 (w3.setCell ⟨bX,1,none⟩ v'):=(Mod.refl (fun x=>x=bX) w3).setCell (fun _=>rfl) _
 have hMM:Mod (fun x=>v.ownBlock=some x∨x=bX) w (w3.setCell ⟨bX,1,none⟩ v'):=(hM13.mono fun _ _ e=>.inl e).trans hM4 (fun _ _ e=>.inr e);have hMM1:Mod (fun x=>v.ownBlock=some x∨x=bX) w1 (w3.setCell ⟨bX,1,none⟩ v'):=(hM3.mono fun _ _ e=>.inl e).trans hM4 (fun _ _ e=>.inr e)
 have hvX:∀g,v.ownBlock=some g→g≠bX:=fun g hg=>by
  obtain ⟨c,hc⟩:=row_blk h.row hg;exact ne_types hc h.top (by decide)
 have htop3:=hM13.heap h.top (fun e=>hvX _ e rfl);have htop1:=hM1.heap h.top (fun e=>e)
 have hbA:∀ {x:Nat} {c:Array Value} {T:TypeId},w.heap[x]?=some (.cells c T (0,0))→T≠180→T≠107→¬(v.ownBlock=some x∨x=bX):=fun {x c T} hx h1 h2 e=>by
  rcases e with e|e
  ·obtain ⟨d,hd⟩:=row_blk h.row e;exact ne_types hx hd h1 rfl
  ·exact ne_types hx h.top h2 e
 have hbW:∀ {x:Nat} {c:Array Value} {T:TypeId},w1.heap[x]?=some (.cells c T (0,0))→T≠180→T≠107→¬(v.ownBlock=some x∨x=bX):=fun {x c T} hx h1 h2 e=>by
  rcases e with e|e
  ·obtain ⟨d,hd⟩:=row_blk (rowMod h.row hM1 (fun _ _ e=>e)) e;exact ne_types hx hd h1 rfl
  ·exact ne_types hx htop1 h2 e
 obtain ⟨ct,hct⟩:=h.ar.top;obtain ⟨cj,hcj⟩:=h.ar.cells;refine ⟨h.base.trans hMM (fun x hx e=>?_),?_,h.lo,h.ar.keep hMM (hbA hct (by decide) (by decide)) (hbA hcj (by decide) (by decide)),?_,fun g hg=>?_,fun t y p hy hp=>?_,?_,fun y hy g hg=>?_,fun i j y x g hy hx hyg hxg=>?_⟩
 ·rcases e with e|e
  ·have:=h.vlo x e;omega
  ·have:=h.lo.1;omega
 ·rw[Qh.heap_setCell_same htop3];simp
 ·rw[List.length_append,List.length_singleton]
  exact rowMod hown hM4 (fun g hg=>by
   obtain ⟨c,hc⟩:=row_blk hown hg
   exact ne_types hc htop3 (by decide))
 ·rcases hfr g hg with e|e
  ·exact h.vlo g e
  ·omega
 ·rw[List.getElem?_append]at hy
  by_cases e:t<us.length
  ·rw[if_pos e]at hy
   exact (h.rows t y p hy hp).keep hMM (fun g hg=>by
    obtain ⟨-,c,hc⟩:=h.lt hy hg
    exact hbA hc (by decide) (by decide))
  ·rw[if_neg e]at hy
   have e0:t - us.length=0:=by have:=(List.getElem?_eq_some_iff.1 hy).1;simp at this;omega
   rw[e0]at hy
   obtain rfl:t=us.length:=by omega
   cases hy;rw[hq]at hp;cases hp
   exact hu.keep hMM1 (fun g hg=>by
    obtain ⟨c,hc⟩:=off_blk hu hg
    exact hbW hc (by decide) (by decide))
 ·rw[List.length_append,List.length_singleton];have:=(List.getElem?_eq_some_iff.1 hq).1;omega
 ·rcases List.mem_append.1 hy with e|e
  ·exact h.ulo y e g hg
  ·simp at e;subst e;have:=huf g hg;omega
 ·rw[List.getElem?_append]at hy hx
  have hnew:∀ {k:Nat} {z:Value},¬k<us.length→[u][k - us.length]?=some z→k=us.length∧z=u:=fun {k z} e hz=>by
   have e0:k - us.length=0:=by have:=(List.getElem?_eq_some_iff.1 hz).1;simp at this;omega
   rw[e0]at hz;cases hz;exact ⟨by omega,rfl⟩
  by_cases e1:i<us.length
  ·rw[if_pos e1]at hy
   by_cases e2:j<us.length
   ·rw[if_pos e2]at hx;exact h.sep i j y x g hy hx hyg hxg
   ·rw[if_neg e2]at hx;obtain ⟨-,rfl⟩:=hnew e2 hx
    have:=(h.lt hy hyg).1;have:=huf g hxg;omega
  ·rw[if_neg e1]at hy;obtain ⟨e3,rfl⟩:=hnew e1 hy
   by_cases e2:j<us.length
   ·rw[if_pos e2]at hx
    have:=(h.lt hx hxg).1;have:=huf g hyg;omega
   ·rw[if_neg e2]at hx;obtain ⟨e4,rfl⟩:=hnew e2 hx;omega
theorem MCp.mem(h:MCp w0 w bX bA gA l ws v us)(hl:us.length=ws.length)(h1:1≤ws.length):∃gV,PMV w ⟨bX,bA,gA,gV⟩ l ws us∧∀x,PFoot ⟨bX,bA,gA,gV⟩ us x→w0.heap.size≤x:=by
 have hrow:=h.row
 rcases hrow.2 with ⟨rfl,e0⟩|⟨g,cap,cur,rfl,_,hg,x1,x2,x3,x4⟩
 ·omega
 ·obtain ⟨ct,hct⟩:=h.ar.top;obtain ⟨cj,hcj⟩:=h.ar.cells
  refine ⟨g,⟨⟨cap,by rw[←hl];exact h.top⟩,h.ar,⟨cur.toList.drop us.length,?_⟩,hl,h.rows,⟨ne_types h.top hct (by decide),ne_types h.top hcj (by decide),ne_types h.top hg (by decide),ne_types hct hg (by decide),ne_types hcj hg (by decide)⟩,fun u hu b hb=>?_,h.sep⟩,fun x hx=>?_⟩
  ·have e:(us++cur.toList.drop us.length).toArray=cur:=by
    have x5:cur.toList.take us.length=us:=by rw[Nat.mul_one]at x4;exact x4
    conv=>lhs;rw[←x5]
    rw[List.length_take]
    have:min us.length cur.toList.length=us.length:=by
     have:=congrArg List.length x5;rw[List.length_take]at this;exact this
    rw[this,List.take_append_drop]
   rw[e];exact hg
  ·obtain ⟨t,ht⟩:=List.mem_iff_getElem?.1 hu;obtain ⟨-,c,hc⟩:=h.lt ht hb;exact ⟨ne_types hc h.top (by decide),ne_types hc hct (by decide),ne_types hc hcj (by decide),ne_types hc hg (by decide)⟩
  ·rcases hx with rfl|rfl|rfl|rfl|⟨u,hu,hb⟩
   ·exact h.lo.1
   ·exact h.lo.2.1
   ·exact h.lo.2.2
   ·exact h.vlo _ rfl
   ·exact h.ulo u hu x hb
theorem cwait_row{W:World}{a:Option Addr}{c:Nat}{q:List Wt}(h:waitRow W (.slice a q.length c) q)(h8:q.length≤8) :
  Calls Tryz.prog 137 #[.slice a q.length c] W fun e w'=>∃xa xc,e=.returned (.slice xa q.length xc)∧waitRow w' (.slice xa q.length xc) q∧(∀g,(Value.slice xa q.length xc).ownBlock=some g→W.heap.size≤g)∧Mod noF W w':=by
 rcases id h.2 with ⟨e,e0⟩|⟨g,s,cap,cur,e,hg,h1,h2,h3,h4⟩
 ·have hq:q=[]:=List.eq_nil_of_length_eq_zero e0;subst hq;simp only[Value.slice.injEq,List.length_nil,true_and]at e;obtain ⟨rfl,rfl⟩:=e;refine (cwait_nil W).mono ?_;rintro e w' ⟨rfl,hm⟩;exact ⟨none,0,rfl,h.keep hm (fun _ _ e=>e),fun g hg=>by simp[Value.ownBlock]at hg,hm⟩
 ·cases e
  have hsrc:∀j u,(flat wtVals 0 q)[j]?=some u→W.cell? ((⟨g,s,none⟩:Addr).add j)=some u:=fun j u hu=>by
   rw[add_at,cell_of_heap hg];rw[←h4,List.getElem?_take]at hu
   split at hu
   ·rw[List.getElem?_drop]at hu;simpa using hu
   ·cases hu
  refine (cwait_any g s c q.length (flat wtVals 0 q) (flat_length wtVals 4 (fun _ _=>rfl) q 0) hsrc (flat_one q 0) (by omega)).mono ?_;rintro e w' ⟨v',rfl,hown,hm,hf⟩;have ho:=own_off hown;obtain ⟨xa,xc,rfl,-,-⟩:=ho.slice;exact ⟨xa,xc,rfl,ho,hf,hm⟩
theorem slot_one(a:Option Addr)(n c:Nat):∀u∈[Value.slice a n c],u.oneCell'=true:=fun u hu=>by
 simp at hu;subst hu;rfl
theorem prowInfo:(Tryz.prog.info? 180).map (fun i=>(i.zero,i.size,i.bytes))=some (some (.slice none 0 0),1,24):=by kernel_rfl
theorem mcopy_any{B:PB}{vs:List Value}(h:PMV w B l ws vs)(l1:1≤l.length)(l64:l.length≤64)(t1:1≤ws.length)(t6:ws.length≤6)(h8:∀(t:Nat) q,ws[t]?=some q→q.length≤8) :
  Calls Tryz.prog 129 #[.pointer (some ⟨B.bM,0,none⟩)] w fun e w'=>∃B' vs',e=.returned (.pointer (some ⟨B'.bM,0,none⟩))∧PMV w' B' l ws vs'∧Mod noF w w'∧∀x,PFoot B' vs' x→w.heap.size≤x:=by
 obtain ⟨i0,hti,hz0,hz1,hz2⟩:=info_parts prowInfo;have p0:=h.ptr;have pb:=h.lt (x:=B.bM) (.inl rfl);obtain ⟨kw,p1⟩:=h.slice;have HH:=Lib.hid h;have H8:=Lib.hid h8;clear h h8
 go_enter Tryz.func129,Tryz.ntmps129
 go_wp2_with fail
 refine (acopy_any HH.out.arena l1 l64).mono ?_;rintro e w1 ⟨bA,gA,rfl,A1,hm1,hb1,hg1⟩;have C0:=MCp.start (ws:=ws) A1 hm1 hb1 hg1;have q1:=hm1.cell p1 (fun e=>e);have q2:=C0.base.cell p1 (fun e=>e);have qb:=Nat.lt_of_lt_of_le pb hm1.size;have qb2:=Nat.lt_of_lt_of_le pb C0.base.size
 have HC0:=Lib.hid C0;clear A1 hm1 hb1 hg1 C0 p0 p1
 go_wp2_with fail
 go_loopw [5,18] (fun _ i wr=>∃(v:Value) (us:List Value),i=.int .i64 us.length∧MCp w wr w1.heap.size bA gA l ws v us) (fun _ i _=>ws.length - (intOf i).toNat)
 case atStart=>exact ⟨_,[],rfl,HC0.out⟩
 case round=>
  obtain ⟨v,us,rfl,C⟩:=hrel;obtain ⟨wo,rfl⟩:∃wo:World,wo=wr:=⟨_,rfl⟩;have hm:=HH.out.keep0 C.base;have HC:=Lib.hid C;have hus:=C.len
  by_cases hlt:us.length<ws.length
  ·have hd:decide ((us.length:Int)<(ws.length:Int))=true:=by simp;omega
   have hki:(us.length:Int)<(ws.length:Int):=by omega
   obtain ⟨q,hq⟩:∃q,ws[us.length]?=some q:=⟨_,List.getElem?_eq_getElem hlt⟩;obtain ⟨vk,a,c,hvk,rfl,k1,k2,hcell,hrow⟩:=hm.rowAt hq;have hwb:=hm.lt (x:=B.bW) (.inr (.inr (.inr (.inl rfl))))
   have hclone:∀W,Mod noF wo W→Calls Tryz.prog 137 #[.slice a q.length c] W fun e w'=>∃xa xc,e=.returned (.slice xa q.length xc)∧waitRow w' (.slice xa q.length xc) q∧(∀g,(Value.slice xa q.length xc).ownBlock=some g→wo.heap.size≤g)∧Mod noF wo W∧Mod noF W w'∧Mod noF wo w':=fun W hW=>
    (cwait_row (hrow.keep hW (fun _ _ e=>e)) (H8.out _ q hq)).mono fun e w' ⟨xa,xc,e1,e2,e3,e4⟩=>⟨xa,xc,e1,e2,fun g hg=>Nat.le_trans hW.size (e3 g hg),hW,e4,hW.trans0 e4⟩
   have Hclone:=Lib.hid hclone;have tt:wo.cell? ⟨w1.heap.size,1,none⟩=some v:=(cell_of_heap C.top 1).trans rfl;have tb:=lt_of_block C.top;have tf:=free_of_heap C.top 1
   have hbnd:us.length+1≤maxLen:=by unfold maxLen;omega
   have Hq:=Lib.hid hq;have Hrow:=Lib.hid C.row;clear hm C hvk hrow hclone hq
   go_wp2_with fail
   go_region_law (first|(refine step_append_mine _ rfl (.tmp 26) (.tmp 29) 105 rfl 180 i0 (.slice none 0 0) 1 24 Tryz.underlying105 hti hz0 hz1 hz2 rfl (by decide) v us.length us rfl (by exact rowMod Hrow.out (Mod.alloc hk5 _) (fun _ _ e=>e)) ⟨wc.heap.size,0,none⟩ 1 1 [.slice xa q.length xc] rfl rfl (new_cells wc _ _) (slot_one _ _ _) hbnd (by omega) ?_;intro v4 w9 hown9 hgr9 hfr9 _;have hm9:Mod (fun x=>v.ownBlock=some x) wc w9:=appended hgr9 ((Mod.refl noF wc).alloc _);have htop9:=hm9.heap (hk5.heap HC.out.top (fun e=>e)) (fun e=>by obtain ⟨cc,hcc⟩:=row_blk HC.out.row e;exact ne_types hcc HC.out.top (by decide) rfl);have hc9:w9.cell? ⟨w1.heap.size,1,none⟩=some v:=(cell_of_heap htop9 1).trans rfl;have hf9:=free_of_heap htop9 1;have hb9:=lt_of_block htop9;have HNn:=Lib.hid (HC.out.next Hq.out hk5 hk1 hk2 hown9 hm9 (fun g hg=>(hfr9 g hg).imp id (fun h=>by simp at h;omega)));obtain ⟨ya,yb,yc,rfl⟩:=slice_of_own hown9;clear hown9 hgr9 hfr9 hm9 htop9)|(go_simp;go_at_call 137;refine (Hclone.out _ (by first|assumption|exact (Mod.refl _ _).drew|exact Mod.refl _ _)).mono ?_;rintro e wc ⟨xa,xc,rfl,hk1,hk2,hk3,hk4,hk5⟩;have tc:=hk5.cell tt (fun e=>e);have tcb:=Nat.lt_of_lt_of_le tb hk5.size))
   all_goals
    go_wp2
    go_roundw
    case rel=>exact ⟨_,us++[.slice xa q.length xc],by rw[List.length_append];go_num,HNn.out⟩
    case measure=>simp[intOf];omega
  ·have hd:decide ((us.length:Int)<(ws.length:Int))=false:=by simp;omega
   have hl:us.length=ws.length:=by omega
   obtain ⟨gV,hP,hF⟩:=C.mem hl t1;have HP:=Lib.hid hP;have HF:=Lib.hid hF;clear hm C hP hF;go_wp2;go_ret;exact ⟨⟨_,_,_,gV⟩,us,rfl,HP.out,HC.out.base,HF.out⟩
end
section
open Go.RowKit Go.Shelf Qs Qh
attribute [local go_sem] Oper.semAt_some
variable {w:World}{B:PB}{l:List Cell}{ws:List (List Wt)}{vs:List Value}{a:Nat→Addr}
theorem leavesM_nil{F:Fence}{n:Nat}{P:Program}{fn:Func}{tmps:Array Value}{R:Ending→World→Prop}{v:Value}{w:World}(h1:(results fn tmps).run P w=.ok v w)(h2:R (.returned v) w):LeavesInM F n P fn tmps R [] .returning w:=⟨v,h1,h2⟩
abbrev intBox(n:Int):Obj:=.cells #[.int .i64 n] 3
abbrev errBox(v:Value):Obj:=.cells #[v] 31
theorem heap4(w:World)(a b c d:Obj):((((w.alloc a).alloc b).alloc c).alloc d).heap[w.heap.size]?=some a∧((((w.alloc a).alloc b).alloc c).alloc d).heap[w.heap.size+1]?=some b∧((((w.alloc a).alloc b).alloc c).alloc d).heap[w.heap.size+1+1]?=some c∧((((w.alloc a).alloc b).alloc c).alloc d).heap[w.heap.size+1+1+1]?=some d:=by
 have up:∀(x:World) (o:Obj) {k:Nat} {u:Obj},x.heap[k]?=some u→(x.alloc o).heap[k]?=some u:=fun x o k u h=>(Below.heap_alloc x o k (lt_of_block h)).trans h;have h1:=heap_alloc_new w a;have h2:=heap_alloc_new (w.alloc a) b;have h3:=heap_alloc_new ((w.alloc a).alloc b) c
 have h4:=heap_alloc_new (((w.alloc a).alloc b).alloc c) d;simp only[World.size_alloc]at h2 h3 h4;exact ⟨up _ _ (up _ _ (up _ _ h1)),up _ _ (up _ _ h2),up _ _ h3,h4⟩
theorem pload_err2(h:PMV w B l ws vs)(E:Errs4 w a)(hn:l.length≤64)(ht:timesOk l){t:Nat}{q:List Wt}(hq:ws[t]?=some q)(c r W_:Int)(he:loadE l c r W_=(0,2)) :
  Calls Tryz.prog 88 #[.pointer (some ⟨B.bM,0,none⟩),.int .i64 t,.agg #[.int .i64 c,.int .i64 r],.int .i64 W_] w fun e w'=>e=.returned (.tuple #[.int .i64 0,errOf' a 2])∧Mod noF w w':=by
 simp only[errOf',errV,show ((2:Int)=0)=False by decide,if_false,show (2:Int).toNat - 1=1 from rfl];have htl:=(List.getElem?_eq_some_iff.1 hq).1;have hq0:=(((((Mod.refl noF w).alloc (refBox c r)).alloc (intBox W_)).alloc (intBox 0)).alloc (errBox .nilIface));have h2:=h.keep0 hq0
 have hbx:=heap4 w (refBox c r) (intBox W_) (intBox 0) (errBox .nilIface);have E2:=E.keep hq0;obtain ⟨wz,hwz⟩:∃wz,wz=(((w.alloc (refBox c r)).alloc (intBox W_)).alloc (intBox 0)).alloc (errBox .nilIface):=⟨_,rfl⟩;rw[←hwz]at h2 hbx E2 hq0;obtain ⟨bx0,bx1,bx2,bx3⟩:=hbx
 have hS:∀W,Mod noF wz.drew W→(Mod noF wz.drew W∧W.cell? ⟨B.bM,0,none⟩=some (.pointer (some ⟨B.bA,0,none⟩))∧W.cell? ⟨w.heap.size,0,none⟩=some (.int .i64 c)∧W.cell? ⟨w.heap.size,1,none⟩=some (.int .i64 r)∧W.cell? ⟨w.heap.size+1,0,none⟩=some (.int .i64 W_)):=by
  intro W hW;have hz:=(Mod.refl noF wz).drew.trans0 hW;have hx:=hz.heap bx0 (fun e=>e);exact ⟨hW,(h2.keep0 hz).ptr,(cell_of_heap hx 0).trans rfl,(cell_of_heap hx 1).trans rfl,(cell_of_heap (hz.heap bx1 (fun e=>e)) 0).trans rfl⟩
 have hcall:∀W,Mod noF wz.drew W→Calls Tryz.prog 104 #[.pointer (some ⟨B.bA,0,none⟩),.agg #[.int .i64 c,.int .i64 r],.int .i64 W_] W fun e w'=>e=.returned (.tuple #[.int .i64 (loadE l c r W_).1,errOf' a (loadE l c r W_).2])∧Mod noF wz.drew W∧Mod noF wz.drew w':=by
  intro W hW;have hz:=(Mod.refl noF wz).drew.trans0 hW;exact (aload_any (h2.keep0 hz).arena (E2.keep hz) hn ht c r W_).mono fun e w' h=>⟨h.1,hW,hW.trans0 h.2⟩
 rw[he]at hcall;simp only[errOf',errV,show ((2:Int)=0)=False by decide,if_false,show (2:Int).toNat - 1=1 from rfl]at hcall;obtain ⟨-,z0,z1,z2,z3⟩:=hS wz.drew (Mod.refl _ _);have zb:=h2.lt (x:=B.bM) (.inl rfl);have zx:=lt_of_block bx0;have zx1:=lt_of_block bx1;have HS:=Lib.hid hS
 have Hcall:=Lib.hid hcall;have H:=Lib.hid h2;have HE:=Lib.hid E2;have Hq:=Lib.hid hq;have Hq0:=Lib.hid hq0;have Bx0:=Lib.hid bx0;have Bx1:=Lib.hid bx1;have Bx2:=Lib.hid bx2;have Bx3:=Lib.hid bx3;clear hcall h h2 hq0 E E2 ht hq he bx0 bx1 bx2 bx3 hS;refine (callsIn_wide (n:=6)).1 ?_
 refine callsIn_of_wp_marks Tryz.func88 rfl trivial ?_ rfl;refine wpIn_wide.2 ?_
 simp only[Tryz.ntmps88,List.size_toArray,List.length_cons,List.length_nil,Nat.reduceAdd,Nat.reduceSub,Array.replicate_succ,Array.replicate_zero,List.push_toArray,List.append_toArray,List.nil_append,List.cons_append]
 go_wp2_with fail
 rw[←hwz];refine (pthread_ok H.out t htl).mono ?_;rintro e w' ⟨rfl,rfl⟩;clear hwz;go_wp2
 go_region_held3 (fun W=>Mod noF wz.drew W∧W.cell? ⟨B.bM,0,none⟩=some (.pointer (some ⟨B.bA,0,none⟩))∧W.cell? ⟨w.heap.size,0,none⟩=some (.int .i64 c)∧W.cell? ⟨w.heap.size,1,none⟩=some (.int .i64 r)∧W.cell? ⟨w.heap.size+1,0,none⟩=some (.int .i64 W_)) ((refine HS.out _ ?_;first|assumption|exact Mod.refl _ _)) (first|(go_at_call 104;go_split_ands;refine (Hcall.out _ ?_).mono ?_;assumption;rintro e w1 ⟨rfl,hm0,hm1⟩))
 have hm1:=(Mod.refl noF wz).drew.trans0 hm1;have hx2:=hm1.heap Bx2.out (fun e=>e);have hx3:=hm1.heap Bx3.out (fun e=>e);have y2:w1.cell? ⟨w.heap.size+1+1,0,none⟩=some (.int .i64 0):=(cell_of_heap hx2 0).trans rfl
 have y3:w1.cell? ⟨w.heap.size+1+1+1,0,none⟩=some .nilIface:=(cell_of_heap hx3 0).trans rfl;have f2:=free_of_heap hx2 0;have f3:=free_of_heap hx3 0;have yb2:=lt_of_block hx2;have yb3:=lt_of_block hx3;have Hm1:=Lib.hid hm1;clear hm1;go_wp2
 refine leavesM_nil (v:=.tuple #[.int .i64 0,errV a 1]) (by simp[results,Tryz.results88,go_sem,errV,y2,y3]) ⟨rfl,((Hq0.out.trans0 Hm1.out).setCell (fun h=>by simp at h;omega) _).setCell (fun h=>by simp at h;omega) _⟩
theorem pload_err7(h:PMV w B l ws vs)(E:Errs4 w a)(hn:l.length≤64)(ht:timesOk l){t:Nat}{q:List Wt}(hq:ws[t]?=some q)(c r W_:Int)(he:loadE l c r W_=(0,7)) :
  Calls Tryz.prog 88 #[.pointer (some ⟨B.bM,0,none⟩),.int .i64 t,.agg #[.int .i64 c,.int .i64 r],.int .i64 W_] w fun e w'=>e=.returned (.tuple #[.int .i64 0,errOf' a 7])∧Mod noF w w':=by
 simp only[errOf',errV,show ((7:Int)=0)=False by decide,if_false,show (7:Int).toNat - 1=6 from rfl];have htl:=(List.getElem?_eq_some_iff.1 hq).1;have hq0:=(((((Mod.refl noF w).alloc (refBox c r)).alloc (intBox W_)).alloc (intBox 0)).alloc (errBox .nilIface));have h2:=h.keep0 hq0
 have hbx:=heap4 w (refBox c r) (intBox W_) (intBox 0) (errBox .nilIface);have E2:=E.keep hq0;obtain ⟨wz,hwz⟩:∃wz,wz=(((w.alloc (refBox c r)).alloc (intBox W_)).alloc (intBox 0)).alloc (errBox .nilIface):=⟨_,rfl⟩;rw[←hwz]at h2 hbx E2 hq0;obtain ⟨bx0,bx1,bx2,bx3⟩:=hbx
 have hS:∀W,Mod noF wz.drew W→(Mod noF wz.drew W∧W.cell? ⟨B.bM,0,none⟩=some (.pointer (some ⟨B.bA,0,none⟩))∧W.cell? ⟨w.heap.size,0,none⟩=some (.int .i64 c)∧W.cell? ⟨w.heap.size,1,none⟩=some (.int .i64 r)∧W.cell? ⟨w.heap.size+1,0,none⟩=some (.int .i64 W_)):=by
  intro W hW;have hz:=(Mod.refl noF wz).drew.trans0 hW;have hx:=hz.heap bx0 (fun e=>e);exact ⟨hW,(h2.keep0 hz).ptr,(cell_of_heap hx 0).trans rfl,(cell_of_heap hx 1).trans rfl,(cell_of_heap (hz.heap bx1 (fun e=>e)) 0).trans rfl⟩
 have hcall:∀W,Mod noF wz.drew W→Calls Tryz.prog 104 #[.pointer (some ⟨B.bA,0,none⟩),.agg #[.int .i64 c,.int .i64 r],.int .i64 W_] W fun e w'=>e=.returned (.tuple #[.int .i64 (loadE l c r W_).1,errOf' a (loadE l c r W_).2])∧Mod noF wz.drew W∧Mod noF wz.drew w':=by
  intro W hW;have hz:=(Mod.refl noF wz).drew.trans0 hW;exact (aload_any (h2.keep0 hz).arena (E2.keep hz) hn ht c r W_).mono fun e w' h=>⟨h.1,hW,hW.trans0 h.2⟩
 rw[he]at hcall;simp only[errOf',errV,show ((7:Int)=0)=False by decide,if_false,show (7:Int).toNat - 1=6 from rfl]at hcall;obtain ⟨-,z0,z1,z2,z3⟩:=hS wz.drew (Mod.refl _ _);have zb:=h2.lt (x:=B.bM) (.inl rfl);have zx:=lt_of_block bx0;have zx1:=lt_of_block bx1;have HS:=Lib.hid hS
 have Hcall:=Lib.hid hcall;have H:=Lib.hid h2;have HE:=Lib.hid E2;have Hq:=Lib.hid hq;have Hq0:=Lib.hid hq0;have Bx0:=Lib.hid bx0;have Bx1:=Lib.hid bx1;have Bx2:=Lib.hid bx2;have Bx3:=Lib.hid bx3;clear hcall h h2 hq0 E E2 ht hq he bx0 bx1 bx2 bx3 hS;refine (callsIn_wide (n:=6)).1 ?_
 refine callsIn_of_wp_marks Tryz.func88 rfl trivial ?_ rfl;refine wpIn_wide.2 ?_
 simp only[Tryz.ntmps88,List.size_toArray,List.length_cons,List.length_nil,Nat.reduceAdd,Nat.reduceSub,Array.replicate_succ,Array.replicate_zero,List.push_toArray,List.append_toArray,List.nil_append,List.cons_append]
 go_wp2_with fail
 rw[←hwz];refine (pthread_ok H.out t htl).mono ?_;rintro e w' ⟨rfl,rfl⟩;clear hwz;go_wp2
 go_region_held3 (fun W=>Mod noF wz.drew W∧W.cell? ⟨B.bM,0,none⟩=some (.pointer (some ⟨B.bA,0,none⟩))∧W.cell? ⟨w.heap.size,0,none⟩=some (.int .i64 c)∧W.cell? ⟨w.heap.size,1,none⟩=some (.int .i64 r)∧W.cell? ⟨w.heap.size+1,0,none⟩=some (.int .i64 W_)) ((refine HS.out _ ?_;first|assumption|exact Mod.refl _ _)) (first|(go_at_call 104;go_split_ands;refine (Hcall.out _ ?_).mono ?_;assumption;rintro e w1 ⟨rfl,hm0,hm1⟩))
 have hm1:=(Mod.refl noF wz).drew.trans0 hm1;have hx2:=hm1.heap Bx2.out (fun e=>e);have hx3:=hm1.heap Bx3.out (fun e=>e);have y2:w1.cell? ⟨w.heap.size+1+1,0,none⟩=some (.int .i64 0):=(cell_of_heap hx2 0).trans rfl
 have y3:w1.cell? ⟨w.heap.size+1+1+1,0,none⟩=some .nilIface:=(cell_of_heap hx3 0).trans rfl;have f2:=free_of_heap hx2 0;have f3:=free_of_heap hx3 0;have yb2:=lt_of_block hx2;have yb3:=lt_of_block hx3;have Hm1:=Lib.hid hm1;clear hm1;go_wp2
 refine leavesM_nil (v:=.tuple #[.int .i64 0,errV a 6]) (by simp[results,Tryz.results88,go_sem,errV,y2,y3]) ⟨rfl,((Hq0.out.trans0 Hm1.out).setCell (fun h=>by simp at h;omega) _).setCell (fun h=>by simp at h;omega) _⟩
structure LBox(W:World)(N:Nat)(c r W_:Int)(u2 u3:Value):Prop where
 b0:W.heap[N]?=some (refBox c r)
 b1:W.heap[N+1]?=some (intBox W_)
 b2:W.heap[N+1+1]?=some (.cells #[u2] 3)
 b3:W.heap[N+1+1+1]?=some (errBox u3)
theorem block_kept{X Y:World}{row:Option Nat}{b Bd:Nat}{o:Obj}(h:X.heap[b]?=some o)(hc:o.isCells=true)(hg:X.grownBy Y row)(hrow:∀r,row=some r→Bd≤r∧∃o:Obj,X.heap[r]?=some o∧o.isCells=false):Y.heap[b]?=some o:=by
 refine (hg.block b (lt_of_block h) fun e=>?_).trans h;obtain ⟨_,o',h1,h2⟩:=hrow b e.symm;rw[h]at h1;cases h1;rw[hc]at h2;cases h2
theorem LBox.kept{X Y:World}{row:Option Nat}{N Bd:Nat}{c r W_:Int}{u2 u3:Value}(h:LBox X N c r W_ u2 u3)(hg:X.grownBy Y row)(hrow:∀r,row=some r→Bd≤r∧∃o:Obj,X.heap[r]?=some o∧o.isCells=false):LBox Y N c r W_ u2 u3:=
 ⟨block_kept h.b0 rfl hg hrow,block_kept h.b1 rfl hg hrow,block_kept h.b2 rfl hg hrow,block_kept h.b3 rfl hg hrow⟩
theorem LBox.mod{X Y:World}{N:Nat}{c r W_:Int}{u2 u3:Value}(h:LBox X N c r W_ u2 u3)(hM:Mod noF X Y):LBox Y N c r W_ u2 u3:=
 ⟨hM.heap h.b0 (fun e=>e),hM.heap h.b1 (fun e=>e),hM.heap h.b2 (fun e=>e),hM.heap h.b3 (fun e=>e)⟩
theorem LBox.set{X:World}{N:Nat}{c r W_:Int}{u2 u3:Value}(h:LBox X N c r W_ u2 u3)(v2 v3:Value):LBox ((X.setCell ⟨N+1+1,0,none⟩ v2).setCell ⟨N+1+1+1,0,none⟩ v3) N c r W_ v2 v3:=by
 have o:∀(b:Nat) (u:Obj),b≠N+1+1→b≠N+1+1+1→X.heap[b]?=some u→((X.setCell ⟨N+1+1,0,none⟩ v2).setCell ⟨N+1+1+1,0,none⟩ v3).heap[b]?=some u:=fun b u h1 h2 hb=>(Qh.heap_setCell_other h2 _).trans ((Qh.heap_setCell_other h1 _).trans hb)
 refine ⟨o _ _ (by omega) (by omega) h.b0,o _ _ (by omega) (by omega) h.b1,?_,?_⟩
 ·refine (Qh.heap_setCell_other (by omega) _).trans ?_;have:=Qh.heap_setCell_same h.b2 0 v2
  simpa using this
 ·have h3:=(Qh.heap_setCell_other (w:=X) (k:=N+1+1+1) (b:=N+1+1) (i:=0) (by omega) v2).trans h.b3;have:=Qh.heap_setCell_same h3 0 v3
  simpa using this
def loadTmps(bM bA bW w1s N rc:Nat)(ra:Option Addr)(t qn wn wk:Nat)(c r W_ x:Int)(Bx:Nat)(y:Nat × Wt):Array Value:=#[.pointer (some ⟨bM,0,none⟩),.int .i64 t,.agg #[.int .i64 c,.int .i64 r],.int .i64 W_,undef,undef,.pointer (some ⟨N,0,none⟩),.pointer (some ⟨N+1,0,none⟩),.pointer (some ⟨N+1+1,0,none⟩),.pointer (some ⟨N+1+1+1,0,none⟩),.nilIface,.int .i64 x,.nilIface,undef,.pointer (some ⟨Bx,0,none⟩),.pointer (some ⟨bM,0,none⟩),.int .i64 t,.nilIface,.nilIface,.bool false,undef,.tuple #[.int .i64 x,.nilIface],.pointer (some ⟨bM,0,none⟩),.pointer (some ⟨bM,0,none⟩),.pointer (some ⟨bM,0,none⟩),.pointer (some ⟨bA,0,none⟩),.agg #[.int .i64 c,.int .i64 r],.int .i64 W_,.tuple #[.int .i64 x,.nilIface],.int .i64 x,.nilIface,.nilIface,.bool false,undef,.pointer (some ⟨bM,0,none⟩),.pointer (some ⟨bM,0,none⟩),.pointer (some ⟨bM,1,none⟩),.slice (some ⟨bW,0,none⟩) wn wk,.int .i64 t,.pointer (some ⟨bW,t,none⟩),.slice ra qn rc,.func (.func 132) #[] #[.pointer (some ⟨w1s,0,none⟩)],.int .i64 (y.1:Int),.agg #[.int .i64 y.2.c,.int .i64 y.2.g,.int .i64 y.2.w,.int .i64 y.2.v],undef,undef,undef,undef,undef,undef,undef,undef,undef,undef,undef,undef,undef]
theorem pload_ok(h:PMV w B l ws vs)(E:Errs4 w a)(hn:l.length≤64)(ht:timesOk l)(hn6:ws.length≤6){t:Nat}{q:List Wt}(hq:ws[t]?=some q)(hql:q.length≤8)(c r W_ x:Int)(he:loadE l c r W_=(x,0)) :
  Calls Tryz.prog 88 #[.pointer (some ⟨B.bM,0,none⟩),.int .i64 t,.agg #[.int .i64 c,.int .i64 r],.int .i64 W_] w fun e w'=>e=.returned (.tuple #[.int .i64 (Qs.look q c r W_ x),.nilIface])∧Mod noF w w':=by
 have htl:=(List.getElem?_eq_some_iff.1 hq).1;have hq0:=(((((Mod.refl noF w).alloc (refBox c r)).alloc (intBox W_)).alloc (intBox 0)).alloc (errBox .nilIface));have h2:=h.keep0 hq0;have hbx:=heap4 w (refBox c r) (intBox W_) (intBox 0) (errBox .nilIface);have E2:=E.keep hq0
 obtain ⟨wz,hwz⟩:∃wz,wz=(((w.alloc (refBox c r)).alloc (intBox W_)).alloc (intBox 0)).alloc (errBox .nilIface):=⟨_,rfl⟩;rw[←hwz]at h2 hbx E2 hq0;obtain ⟨bx0,bx1,bx2,bx3⟩:=hbx
 have hS:∀W,Mod noF wz.drew W→(Mod noF wz.drew W∧W.cell? ⟨B.bM,0,none⟩=some (.pointer (some ⟨B.bA,0,none⟩))∧W.cell? ⟨w.heap.size,0,none⟩=some (.int .i64 c)∧W.cell? ⟨w.heap.size,1,none⟩=some (.int .i64 r)∧W.cell? ⟨w.heap.size+1,0,none⟩=some (.int .i64 W_)):=by
  intro W hW;have hz:=(Mod.refl noF wz).drew.trans0 hW;have hx:=hz.heap bx0 (fun e=>e);exact ⟨hW,(h2.keep0 hz).ptr,(cell_of_heap hx 0).trans rfl,(cell_of_heap hx 1).trans rfl,(cell_of_heap (hz.heap bx1 (fun e=>e)) 0).trans rfl⟩
 have hcall:∀W,Mod noF wz.drew W→Calls Tryz.prog 104 #[.pointer (some ⟨B.bA,0,none⟩),.agg #[.int .i64 c,.int .i64 r],.int .i64 W_] W fun e w'=>e=.returned (.tuple #[.int .i64 (loadE l c r W_).1,errOf' a (loadE l c r W_).2])∧Mod noF wz.drew W∧Mod noF wz.drew w':=by
  intro W hW;have hz:=(Mod.refl noF wz).drew.trans0 hW;exact (aload_any (h2.keep0 hz).arena (E2.keep hz) hn ht c r W_).mono fun e w' h=>⟨h.1,hW,hW.trans0 h.2⟩
 rw[he]at hcall;simp only[errOf',errV,if_true]at hcall;obtain ⟨-,z0,z1,z2,z3⟩:=hS wz.drew (Mod.refl _ _);have zb:=h2.lt (x:=B.bM) (.inl rfl);have zx:=lt_of_block bx0;have zx1:=lt_of_block bx1;have HS:=Lib.hid hS;have Hcall:=Lib.hid hcall;have H:=Lib.hid h2;have HE:=Lib.hid E2;have Hq:=Lib.hid hq
 have Hq0:=Lib.hid hq0;have Bx0:=Lib.hid bx0;have Bx1:=Lib.hid bx1;have Bx2:=Lib.hid bx2;have Bx3:=Lib.hid bx3;clear hcall h h2 hq0 E E2 ht hq he bx0 bx1 bx2 bx3 hS;refine (callsIn_wide (n:=6)).1 ?_;refine callsIn_of_wp_marks Tryz.func88 rfl trivial ?_ rfl
 refine wpIn_wide.2 ?_;simp only[Tryz.ntmps88,List.size_toArray,List.length_cons,List.length_nil,Nat.reduceAdd,Nat.reduceSub,Array.replicate_succ,Array.replicate_zero,List.push_toArray,List.append_toArray,List.nil_append,List.cons_append]
 go_wp2_with fail
 rw[←hwz];refine (pthread_ok H.out t htl).mono ?_;rintro e w' ⟨rfl,rfl⟩;clear hwz;go_wp2
 go_region_held3 (fun W=>Mod noF wz.drew W∧W.cell? ⟨B.bM,0,none⟩=some (.pointer (some ⟨B.bA,0,none⟩))∧W.cell? ⟨w.heap.size,0,none⟩=some (.int .i64 c)∧W.cell? ⟨w.heap.size,1,none⟩=some (.int .i64 r)∧W.cell? ⟨w.heap.size+1,0,none⟩=some (.int .i64 W_)) ((refine HS.out _ ?_;first|assumption|exact Mod.refl _ _)) (first|(go_at_call 104;go_split_ands;refine (Hcall.out _ ?_).mono ?_;assumption;rintro e w1 ⟨rfl,hm0,hm1⟩))
 have hm1:=(Mod.refl noF wz).drew.trans0 hm1;have hx2:=hm1.heap Bx2.out (fun e=>e);have hx3:=hm1.heap Bx3.out (fun e=>e);have y2:w1.cell? ⟨w.heap.size+1+1,0,none⟩=some (.int .i64 0):=(cell_of_heap hx2 0).trans rfl
 have y3:w1.cell? ⟨w.heap.size+1+1+1,0,none⟩=some .nilIface:=(cell_of_heap hx3 0).trans rfl;have f2:=free_of_heap hx2 0;have f3:=free_of_heap hx3 0;have yb2:=lt_of_block hx2;have yb3:=lt_of_block hx3;have Hm1:=Lib.hid hm1;clear hm1;have h1:=H.out.keep0 Hm1.out;obtain ⟨kw,p1⟩:=h1.slice
 have pb:=h1.lt (x:=B.bM) (.inl rfl);have pw:=h1.lt (x:=B.bW) (.inr (.inr (.inr (.inl rfl))));obtain ⟨v,ra,rc,hvv,rfl,k1,k2,p2,hrow⟩:=h1.rowAt Hq.out
 have pt:(t:Int)<(ws.length:Int):=by omega
 have H1:=Lib.hid h1;have Hrow:=Lib.hid hrow;clear h1 hvv hrow
 go_wp2_with fail
 refine ((callsIn_wide (n:=5)).1 (back_in Fence.wide 5 trivial rfl ra q.length rc w1)).mono ?_;rintro e w2 ⟨rfl,rfl⟩
 go_wp2_with fail
 have hL:LBox w1 w.heap.size c r W_ (.int .i64 0) .nilIface:=(show LBox wz w.heap.size c r W_ (.int .i64 0) .nilIface from ⟨Bx0.out,Bx1.out,Bx2.out,Bx3.out⟩).mod Hm1.out;have hwL:Mod noF w1 (w1.alloc (.cells #[.slice ra q.length rc] 180)):=(Mod.refl noF w1).alloc _
 have hcb:=heap_alloc_new w1 (.cells #[.slice ra q.length rc] 180)
 have hwsz:w.heap.size≤w1.heap.size:=by omega
 have hM0:=Hq0.out.trans0 Hm1.out;obtain ⟨wL,hLw⟩:∃wL,wL=w1.alloc (.cells #[.slice ra q.length rc] 180):=⟨_,rfl⟩
 have hlsz:wL.heap.size=w1.heap.size+1:=by rw[hLw];simp
 rw[←hLw]at hwL hcb ⊢;have hLL:=hL.mod hwL;have hRL:waitRow wL (.slice ra q.length rc) q:=Hrow.out.keep hwL (fun _ _ e=>e);have hBL:Below w.heap.size w wL:=(hM0.trans0 hwL).toBelow;have hcL:wL.cell? ⟨w1.heap.size,0,none⟩=some (.slice ra q.length rc):=(cell_of_heap hcb 0).trans rfl;clear hLw
 refine (wpIn_wide (n:=6)).1 ?_
 refine wpIn_rangeFunc_ownH (F:=Fence.wide) rfl (by decide) (gf:=132) (lb:=#[.pointer (some ⟨w1.heap.size,0,none⟩)]) rfl trivial (enters_of Tryz.func132 (by kernel_rfl) rfl)
  (back_stops Fence.wide 5 trivial rfl (by decide) w1.heap.size (.slice ra q.length rc) q hql wL (by omega) hcL hRL) belowK_t (belowK_b (Nat.le_refl _)) (Below.refl _ _) (fun _=>rfl)
  (fun pre W=>((∀y∈pre,¬hit c r W_ y.2)∧LBox W w.heap.size c r W_ (.int .i64 0) .nilIface)∧Below w.heap.size wL W)
  (fun k pre W=>(k=.ret∧∃pre' y,pre=pre'++[y]∧(∀z∈pre',¬hit c r W_ z.2)∧hit c r W_ y.2∧LBox W w.heap.size c r W_ (.int .i64 y.2.v) .nilIface)∧Below w.heap.size wL W)
  (OwnFrom.and (fun s A B row hs hg hr=>⟨hs.1,hs.2.kept hg hr⟩) (ownFrom_below (by omega) (by omega)))
  (fun k=>OwnFrom.and (fun s A B row hs hg hr=>by obtain ⟨h1,p',y,h2,h3,h4,h5⟩:=hs;exact ⟨h1,p',y,h2,h3,h4,h5.kept hg hr⟩) (ownFrom_below (by omega) (by omega)))
  ⟨⟨by simp,hLL⟩,Below.refl _ _⟩
  (fun y a' W=>∃Bx,wL.heap.size≤Bx∧W.heap[Bx]?=some (.cells #[.int .i64 y.2.c,.int .i64 y.2.g,.int .i64 y.2.w,.int .i64 y.2.v] 182)∧a' = {tmps:=loadTmps B.bM B.bA B.bW w1.heap.size w.heap.size rc ra t q.length ws.length kw c r W_ x Bx y,defers:=[]})
  (fun y a' s A B row hs hg hr=>by obtain ⟨Bx,h1,h2,h3⟩:=hs;exact ⟨Bx,h1,block_kept h2 rfl hg hr,h3⟩) ?assign ?body ?done ?stop
 case assign=>
  rintro l' pre ⟨yi,yc,yg,yw,yv⟩ W K ⟨⟨hne,hb⟩,hB⟩ hK;have hsz:=hB.size;simp only[backE]
  gi_wp2
  exact hK _ _ ((KeepsOthers.alloc _ _).from _) ((Below.refl _ W).alloc hsz _) ⟨⟨hne,hb.mod ((Mod.refl noF W).alloc _)⟩,hB.alloc (by omega) _⟩ ⟨W.heap.size,hsz,heap_alloc_new W _,rfl⟩
 case body=>
  rintro l' pre ⟨yi,yc,yg,yw,yv⟩ a' W hl' ⟨rr,hrr⟩ ⟨⟨hne,hb⟩,hB⟩ ⟨Bx,hBx,bx,rfl⟩ hlt;have c0:W.cell? ⟨w.heap.size,0,none⟩=some (.int .i64 c):=(cell_of_heap hb.b0 0).trans rfl;have c1:W.cell? ⟨w.heap.size,1,none⟩=some (.int .i64 r):=(cell_of_heap hb.b0 1).trans rfl
  have c2:W.cell? ⟨w.heap.size+1,0,none⟩=some (.int .i64 W_):=(cell_of_heap hb.b1 0).trans rfl;have c3:W.cell? ⟨w.heap.size+1+1,0,none⟩=some (.int .i64 0):=(cell_of_heap hb.b2 0).trans rfl;have c4:W.cell? ⟨w.heap.size+1+1+1,0,none⟩=some .nilIface:=(cell_of_heap hb.b3 0).trans rfl
  have e3:=free_of_heap hb.b2 0;have e4:=free_of_heap hb.b3 0;have d0:W.cell? ⟨Bx,0,none⟩=some (.int .i64 yc):=(cell_of_heap bx 0).trans rfl;have d1:W.cell? ⟨Bx,1,none⟩=some (.int .i64 yg):=(cell_of_heap bx 1).trans rfl;have d2:W.cell? ⟨Bx,2,none⟩=some (.int .i64 yw):=(cell_of_heap bx 2).trans rfl
  have d3:W.cell? ⟨Bx,3,none⟩=some (.int .i64 yv):=(cell_of_heap bx 3).trans rfl;have g0:=lt_of_block hb.b0;have g1:=lt_of_block hb.b1;have g2:=lt_of_block hb.b2;have g3:=lt_of_block hb.b3;have g4:=lt_of_block bx;unfold loadTmps
  gi_wp2
  ·rename_i h1 h2 h3
   exact ⟨((KeepsOthers.setCell _ _ _).trans (KeepsOthers.setCell _ _ _)).from _,⟨rfl,pre,yi,⟨c,r,yw,yv⟩,rfl,fun i y hy=>hne (i,y) hy,⟨rfl,rfl,eq_of_beq h3⟩,hb.set _ _⟩,(hB.setCell (p:=⟨w.heap.size+1+1,0,none⟩) (by simp only;omega) _).setCell (p:=⟨w.heap.size+1+1+1,0,none⟩) (by simp only;omega) _⟩
  ·rename_i h1 h2 h3
   exact ⟨KeepsFrom.refl _ _,Below.refl _ _,⟨fun i y hy=>(List.mem_append.1 hy).elim (fun h=>hne (i,y) h) (fun h hh=>by simp at h;obtain ⟨rfl,rfl⟩:=h;rw[beq_eq_false_iff_ne]at h3;exact h3 hh.2.2),hb⟩,hB⟩
  ·rename_i h1 h2
   exact ⟨KeepsFrom.refl _ _,Below.refl _ _,⟨fun i y hy=>(List.mem_append.1 hy).elim (fun h=>hne (i,y) h) (fun h hh=>by simp at h;obtain ⟨rfl,rfl⟩:=h;exact h2 hh.2.1),hb⟩,hB⟩
  ·rename_i h1
   exact ⟨KeepsFrom.refl _ _,Below.refl _ _,⟨fun i y hy=>(List.mem_append.1 hy).elim (fun h=>hne (i,y) h) (fun h hh=>by simp at h;obtain ⟨rfl,rfl⟩:=h;exact h1 hh.1),hb⟩,hB⟩
 case done=>
  rintro D ys W hD rfl ⟨⟨hne,hb⟩,hB⟩ hK;have c3:W.cell? ⟨w.heap.size+1+1,0,none⟩=some (.int .i64 0):=(cell_of_heap hb.b2 0).trans rfl;have c4:W.cell? ⟨w.heap.size+1+1+1,0,none⟩=some .nilIface:=(cell_of_heap hb.b3 0).trans rfl;have e3:=free_of_heap hb.b2 0;have e4:=free_of_heap hb.b3 0
  have g2:=lt_of_block hb.b2;have g3:=lt_of_block hb.b3;go_wp2;have hBw:=((hBL.trans hB).setCell (p:=⟨w.heap.size+1+1,0,none⟩) (by simp only;omega) (.int .i64 x)).setCell (p:=⟨w.heap.size+1+1+1,0,none⟩) (by simp only;omega) .nilIface;have hLb:=hb.set (.int .i64 x) .nilIface
  have hKD:=((KeepsOthers.setCell W ⟨w.heap.size+1+1,0,none⟩ (.int .i64 x)).trans (KeepsOthers.setCell _ ⟨w.heap.size+1+1+1,0,none⟩ .nilIface)).same D _ hK rfl;have hBD:=hBw.trans (belowK_b (w:=wL) (by omega) _ D _ (.deferred none) hD hKD rfl rfl)
  have hpo:∀k:Nat,k≠D→(World.putObj ((W.setCell ⟨w.heap.size+1+1,0,none⟩ (.int .i64 x)).setCell ⟨w.heap.size+1+1+1,0,none⟩ .nilIface) D (.deferred none)).heap[k]?=((W.setCell ⟨w.heap.size+1+1,0,none⟩ (.int .i64 x)).setCell ⟨w.heap.size+1+1+1,0,none⟩ .nilIface).heap[k]?:=fun k h=>World.putObj_heap_other h
  have q2:(World.putObj ((W.setCell ⟨w.heap.size+1+1,0,none⟩ (.int .i64 x)).setCell ⟨w.heap.size+1+1+1,0,none⟩ .nilIface) D (.deferred none)).cell? ⟨w.heap.size+1+1,0,none⟩=some (.int .i64 x):=(cell_of_heap ((hpo _ (by omega)).trans hLb.b2) 0).trans rfl
  have q3:(World.putObj ((W.setCell ⟨w.heap.size+1+1,0,none⟩ (.int .i64 x)).setCell ⟨w.heap.size+1+1+1,0,none⟩ .nilIface) D (.deferred none)).cell? ⟨w.heap.size+1+1+1,0,none⟩=some .nilIface:=(cell_of_heap ((hpo _ (by omega)).trans hLb.b3) 0).trans rfl
  refine ⟨by simp,.inl ⟨_,_,rfl,run_takeDeferred hKD,?_⟩⟩;refine leavesM_nil (v:=.tuple #[(.int .i64 x),.nilIface]) (by simp[results,Tryz.results88,go_sem,q2,q3]) ⟨by rw[look_all x hne],Mod.below hBD⟩
 case stop=>
  rintro D k pre W hD hSp ⟨⟨rfl,pre',y,rfl,hne,hy,hb⟩,hB⟩ hK;obtain ⟨k,hSk,hSe⟩:=hSp;have g2:=lt_of_block hb.b2;have g3:=lt_of_block hb.b3;refine wpIn_wide.2 ?_;go_wp2;have hBw:=hBL.trans hB;have hLb:=hb;have hKD:=hK
  have hBD:=hBw.trans (belowK_b (w:=wL) (by omega) _ D _ (.deferred none) hD hKD rfl rfl);have hpo:∀k:Nat,k≠D→(World.putObj W D (.deferred none)).heap[k]?=W.heap[k]?:=fun k h=>World.putObj_heap_other h
  have q2:(World.putObj W D (.deferred none)).cell? ⟨w.heap.size+1+1,0,none⟩=some (.int .i64 y.2.v):=(cell_of_heap ((hpo _ (by omega)).trans hLb.b2) 0).trans rfl
  have q3:(World.putObj W D (.deferred none)).cell? ⟨w.heap.size+1+1+1,0,none⟩=some .nilIface:=(cell_of_heap ((hpo _ (by omega)).trans hLb.b3) 0).trans rfl;refine ⟨by simp,.inl ⟨_,_,rfl,run_takeDeferred hKD,?_⟩⟩
  refine leavesM_nil (v:=.tuple #[(.int .i64 y.2.v),.nilIface]) (by simp[results,Tryz.results88,go_sem,q2,q3]) ⟨by rw[look_found x hSk hSe hy hne],Mod.below hBD⟩
end
section
open Go.RowKit Qs Qh
variable {w:World}{B:PB}{l:List Cell}{ws:List (List Wt)}{vs:List Value}{a:Nat→Addr}
theorem intsRow.keep{w w':World}{v:Value}{L:List Int}(h:intsRow w v L)(hM:Mod noF w w'):intsRow w' v L:=by
 obtain ⟨a,c,e,hx⟩:=h;refine ⟨a,c,e,fun i n hi=>?_⟩;obtain ⟨b,off,e',hb,hc⟩:=hx i n hi;exact ⟨b,off,e',Nat.lt_of_lt_of_le hb hM.size,hM.cell hc (fun e=>e)⟩
theorem pwhole_ok{b0:World}(h:PMV w B l ws vs)(E:PLow b0 w a B vs)(C:CellsOk l)(hn6:ws.length≤6){t:Nat}{q:List Wt}(hq:ws[t]?=some q)(hql:q.length≤8)(c r W_:Int){v:Value}{L:List Int}(R:intsRow w v L)(hL:L.length≤8)(hw:okW q)(x:Int)(he:loadE l c r W_=(x,0))(hall:L.all isWord=true) :
  Calls Tryz.prog 122 #[.pointer (some ⟨B.bM,0,none⟩),.int .i64 t,.agg #[.int .i64 c,.int .i64 r],.int .i64 W_,v] w fun e w'=>e=.returned (errOf' a (badN l q))∧∃vs',PUp w B vs w' (drainAll l q).1 (ws.set t []) vs':=by
 have Hall:=Lib.hid hall;have Hw:=Lib.hid hw;clear hall hw;have htl:=(List.getElem?_eq_some_iff.1 hq).1;have hq0:=(Mod.refl noF w).alloc (refBox c r);have h2:=h.keep0 hq0;have hu:=PUp.quiet h hq0;have hbx:=heap_alloc_new w (refBox c r);have E2:=E.keep hq0;have R2:=R.keep hq0
 obtain ⟨wz,hwz⟩:∃wz,wz=w.alloc (refBox c r):=⟨_,rfl⟩;rw[←hwz]at h2 hu hbx E2 R2
 have hS:∀W,Mod noF wz.drew W→(Mod noF wz.drew W∧W.cell? ⟨B.bM,0,none⟩=some (.pointer (some ⟨B.bA,0,none⟩))∧W.cell? ⟨w.heap.size,0,none⟩=some (.int .i64 c)∧W.cell? ⟨w.heap.size,1,none⟩=some (.int .i64 r)):=by
  intro W hW;have hz:=(Mod.refl noF wz).drew.trans0 hW;have hx:=hz.heap hbx (fun e=>e);exact ⟨hW,(h2.keep0 hz).ptr,(cell_of_heap hx 0).trans rfl,(cell_of_heap hx 1).trans rfl⟩
 have hcall:∀W,Mod noF wz.drew W→Calls Tryz.prog 104 #[.pointer (some ⟨B.bA,0,none⟩),.agg #[.int .i64 c,.int .i64 r],.int .i64 W_] W fun e w'=>e=.returned (.tuple #[.int .i64 (loadE l c r W_).1,errOf' a (loadE l c r W_).2])∧Mod noF wz.drew W∧Mod noF wz.drew w':=by
  intro W hW;have hz:=(Mod.refl noF wz).drew.trans0 hW;exact (aload_any (h2.keep0 hz).arena (E2.E.keep hz) C.len C.times c r W_).mono fun e w' h=>⟨h.1,hW,hW.trans0 h.2⟩
 rw[he]at hcall;simp only[errOf',errV,if_true]at hcall;obtain ⟨-,z0,z1,z2⟩:=hS wz.drew (Mod.refl _ _);have zb:=h2.lt (x:=B.bM) (.inl rfl);have zx:=lt_of_block hbx;have HS:=Lib.hid hS;have Hcall:=Lib.hid hcall;have H:=Lib.hid h2;have Hu:=Lib.hid hu;have HE:=Lib.hid E2;have HR:=Lib.hid R2
 have Hq:=Lib.hid hq;have HC:=Lib.hid C;obtain ⟨la,lc,rfl,_⟩:=R;clear hcall h h2 hu hq0 E E2 C R2 hq he hbx hS
 go_enter Tryz.func122,Tryz.ntmps122
 go_wp2_with fail
 rw[←hwz];refine (pthread_ok H.out t htl).mono ?_;rintro e w' ⟨rfl,rfl⟩;clear hwz;go_wp2
 go_region_held3 (fun W=>Mod noF wz.drew W∧W.cell? ⟨B.bM,0,none⟩=some (.pointer (some ⟨B.bA,0,none⟩))∧W.cell? ⟨w.heap.size,0,none⟩=some (.int .i64 c)∧W.cell? ⟨w.heap.size,1,none⟩=some (.int .i64 r)) ((refine HS.out _ ?_;first|assumption|exact Mod.refl _ _)) (first|(go_at_call 104;go_split_ands;refine (Hcall.out _ ?_).mono ?_;assumption;rintro e w1 ⟨rfl,hm0,hm1⟩))
 have hm1:=(Mod.refl noF wz).drew.trans0 hm1;have Hu1:=Lib.hid (Hu.out.then0 hm1);have H1:=Lib.hid (H.out.keep0 hm1);have HE1:=Lib.hid (HE.out.keep hm1);have HR1:=Lib.hid (HR.out.keep hm1);clear hm1 Hcall
 go_wp2_with fail
 refine (containsBad w1 _ L HR1.out hL).mono ?_;rintro e w' ⟨rfl,rfl⟩;rw[Hall.out]
 go_wp2_with fail
 refine (pfence_any H1.out HE1.out HC.out Hq.out hn6 hql Hw.out).mono ?_;rintro e w2 ⟨rfl,vs2,hu2⟩;have Hu2:=Lib.hid (Hu1.out.trans hu2);clear hu2;go_wp2;go_ret;exact ⟨rfl,_,Hu2.out⟩
end
section
open Go.RowKit Qs Qh
variable {w:World}{B:PB}{l:List Cell}{ws:List (List Wt)}{vs:List Value}{a:Nat→Addr}
theorem pstore_any(h:PMV w B l ws vs)(E:Errs4 w a)(C:CellsOk l)(hn6:ws.length≤6){t:Nat}{q:List Wt}(hq:ws[t]?=some q)(hql:q.length≤8)(c r W V:Int) :
  Calls Tryz.prog 90 #[.pointer (some ⟨B.bM,0,none⟩),.int .i64 t,.agg #[.int .i64 c,.int .i64 r],.int .i64 W,.int .i64 V] w fun e w'=>e=.returned (errOf' a (pstE l q c r W V))∧∃vs',PUp w B vs w' l (if pstE l q c r W V=0 then ws.set t (q++[⟨c,r,W,V⟩])else ws) vs':=by
 rcases loadE_cases l c r W with he|he|he
 ·cases hv:isWord V with
  |false=>
   have e:pstE l q c r W V=2:=by simp[pstE,he,hv]
   rw[e,if_neg (by decide)];exact (pstore_bound h E C.len C.times hn6 hq hql c r W V _ he hv).mono fun e w' h=>⟨h.1,_,h.2⟩
  |true=>
   by_cases h8:8≤q.length
   ·have e:pstE l q c r W V=6:=by simp[pstE,he,hv,h8]
    rw[e,if_neg (by decide)];exact (pstore_full h E C.len C.times hn6 hq hql c r W V _ he hv h8).mono fun e w' h=>⟨h.1,_,h.2⟩
   ·have e:pstE l q c r W V=0:=by simp[pstE,he,hv,h8]
    rw[e,if_pos rfl];exact pstore_ok h E C.len C.times hn6 hq hql c r W V _ he hv (by omega)
 ·have e:pstE l q c r W V=2:=by simp[pstE,he]
  rw[e,if_neg (by decide)];exact (pstore_err2 h E C.len C.times hq c r W V he).mono fun e w' h=>⟨h.1,_,h.2⟩
 ·have e:pstE l q c r W V=7:=by simp[pstE,he]
  rw[e,if_neg (by decide)];exact (pstore_err7 h E C.len C.times hq c r W V he).mono fun e w' h=>⟨h.1,_,h.2⟩
def ploadV(l:List Cell)(q:List Wt)(c r W:Int):Int:=if (loadE l c r W).2=0 then Qs.look q c r W (loadE l c r W).1 else 0
theorem pload_any(h:PMV w B l ws vs)(E:Errs4 w a)(C:CellsOk l)(hn6:ws.length≤6){t:Nat}{q:List Wt}(hq:ws[t]?=some q)(hql:q.length≤8)(c r W:Int) :
  Calls Tryz.prog 88 #[.pointer (some ⟨B.bM,0,none⟩),.int .i64 t,.agg #[.int .i64 c,.int .i64 r],.int .i64 W] w fun e w'=>e=.returned (.tuple #[.int .i64 (ploadV l q c r W),errOf' a (loadE l c r W).2])∧Mod noF w w':=by
 rcases loadE_cases l c r W with he|he|he
 ·have e:ploadV l q c r W=Qs.look q c r W (getWord l c.toNat W.toNat):=by simp[ploadV,he]
  rw[e,he];exact pload_ok h E C.len C.times hn6 hq hql c r W _ he
 ·have e:ploadV l q c r W=0:=by simp[ploadV,he]
  rw[e,he];exact pload_err2 h E C.len C.times hq c r W he
 ·have e:ploadV l q c r W=0:=by simp[ploadV,he]
  rw[e,he];exact pload_err7 h E C.len C.times hq c r W he
end
section
open Go.RowKit Qs Qh
variable {w w1 w2 w':World}{Bb:Nat}{v v':Value}{l l':List Nat}
def byteV(b:Nat):Value:=.int .u8 (b:Int)
structure PutSt(w:World)(Bb:Nat)(v:Value)(l:List Nat):Prop where
 cell:w.heap[Bb]?=some (.cells #[v] 233 (0,0))
 row:w.ownsRow 0 5 1 v l.length (l.map byteV)
def PutFoot(Bb:Nat)(v:Value)(x:Nat):Prop:=x=Bb∨v.ownBlock=some x
structure PutUp(w:World)(Bb:Nat)(v:Value)(w':World)(v':Value)(l':List Nat):Prop where
 rep:PutSt w' Bb v' l'
 mod:Mod (PutFoot Bb v) w w'
 foot:∀x,PutFoot Bb v' x→PutFoot Bb v x∨w.heap.size≤x
theorem byte_one(l:List Nat):∀u∈l.map byteV,u.oneCell'=true:=fun u hu=>by
 obtain ⟨b,-,rfl⟩:=List.mem_map.1 hu;rfl
theorem byteInfo:(Tryz.prog.info? 5).map (fun i=>(i.zero,i.size,i.bytes))=some (some (.int .u8 0),1,1):=by kernel_rfl
theorem PutSt.keep{F:Nat→Prop}(h:PutSt w Bb v l)(hM:Mod F w w')(hF:∀x,PutFoot Bb v x→¬F x):PutSt w' Bb v l:=
 ⟨hM.heap h.cell (hF _ (.inl rfl)),rowMod h.row hM (fun g hg=>hF g (.inr hg))⟩
theorem PutSt.keep0(h:PutSt w Bb v l)(hM:Mod noF w w'):PutSt w' Bb v l:=h.keep hM fun _ _ e=>e
theorem PutSt.lt(h:PutSt w Bb v l){x:Nat}(hx:PutFoot Bb v x):x<w.heap.size:=by
 rcases hx with rfl|e
 ·exact lt_of_block h.cell
 ·rcases h.row.2 with ⟨rfl,-⟩|⟨g,cap,cur,rfl,_,hg,_⟩
  ·simp[Value.ownBlock]at e
  ·simp[Value.ownBlock]at e;subst e;exact lt_of_block hg
theorem PutUp.refl(h:PutSt w Bb v l):PutUp w Bb v w v l:=⟨h,Mod.refl _ _,fun _ h=>.inl h⟩
theorem PutUp.trans{v1 v2:Value}{l1 l2:List Nat}(h:PutUp w Bb v w1 v1 l1)(k:PutUp w1 Bb v1 w2 v2 l2):PutUp w Bb v w2 v2 l2:=
 ⟨k.rep,h.mod.trans k.mod (fun x hx hf=>(h.foot x hf).resolve_right (by omega)),fun x hx=>(k.foot x hx).elim (fun e=>h.foot x e) (fun e=>.inr (Nat.le_trans h.mod.size e))⟩
theorem PutUp.after{v1:Value}{l1:List Nat}(k:Mod noF w w1)(h:PutUp w1 Bb v w2 v1 l1):PutUp w Bb v w2 v1 l1:=
 ⟨h.rep,k.any.trans h.mod (fun x hx hf=>hf),fun x hx=>(h.foot x hx).imp id (fun e=>Nat.le_trans k.size e)⟩
theorem PutUp.out{v1:Value}{l1:List Nat}(h:PutUp w Bb v w1 v1 l1){g:Nat}{o:Obj}(hn:¬PutFoot Bb v g)(hg:w.heap[g]?=some o):w1.heap[g]?=some o∧¬PutFoot Bb v1 g:=by
 refine ⟨h.mod.heap hg hn,fun e=>(h.foot g e).elim hn (fun h2=>?_)⟩
 have:g<w.heap.size:=by
  rcases Nat.lt_or_ge g w.heap.size with h3|h3
  ·exact h3
  ·rw[Array.getElem?_eq_none h3]at hg;cases hg
 omega
theorem PutSt.ne(h:PutSt w Bb v l):v.ownBlock≠some Bb:=fun e=>by
 rcases h.row.2 with ⟨rfl,-⟩|⟨g,cap,cur,rfl,_,hg,_⟩
 ·simp[Value.ownBlock]at e
 ·simp[Value.ownBlock]at e;subst e;have:=h.cell;rw[hg]at this;cases this
theorem PutSt.next(h:PutSt w Bb v l){b:Nat}(hM1:Mod noF w w1)(hown:w2.ownsRow 0 5 1 v' (l.length+1) (l.map byteV++[byteV b]))(hM2:Mod (fun x=>v.ownBlock=some x) w1 w2)(hfr:∀g,v'.ownBlock=some g→v.ownBlock=some g∨w1.heap.size≤g) :
  PutUp w Bb v (w2.setCell ⟨Bb,0,none⟩ v') v' (l++[b]):=by
 have hM4:Mod (fun x=>x=Bb) w2 (w2.setCell ⟨Bb,0,none⟩ v'):=(Mod.refl (fun x=>x=Bb) w2).setCell (fun _=>rfl) _;have hne:=h.ne;have hc2:=hM2.heap (hM1.heap h.cell (fun e=>e)) hne;have hs:=hM1.size;refine ⟨⟨?_,?_⟩,?_,fun x hx=>?_⟩
 ·rw[Qh.heap_setCell_same hc2];simp
 ·rw[List.length_append,List.length_singleton,List.map_append]
  exact rowMod hown hM4 (fun g hg e=>by
   subst e
   rcases hown.2 with ⟨rfl,-⟩|⟨g',cap,cur,rfl,_,hg',_⟩
   ·simp[Value.ownBlock]at hg
   ·simp[Value.ownBlock]at hg;subst hg;rw[hg']at hc2
    cases hc2)
 ·exact ((hM1.any (F:=PutFoot Bb v)).trans (hM2.mono fun x _ hx=>.inr hx) (fun _ _ e=>e)).trans (hM4.mono fun x _ hx=>.inl hx) (fun _ _ e=>e)
 ·rcases hx with e|e
  ·exact .inl (.inl e)
  ·exact (hfr x e).imp (fun e=>.inr e) (fun e=>by omega)
theorem byte_or256:∀n:Fin 256,bits .or .u8 (n.val:Int) 128=((n.val % 128+128:Nat):Int):=by decide +kernel
theorem byte_or(m:Nat):bits .or .u8 ((m:Int) % 256) 128=((m % 128+128:Nat):Int):=by
 have h:=byte_or256 ⟨m % 256,by omega⟩
 have e:m % 256 % 128=m % 128:=by omega
 simp only[e]at h;rw[←h]
 congr 1
theorem put_any(h:PutSt w Bb v l)(n:Nat)(hn:n<128 ^ 9)(hl:l.length≤1000000) :
  Calls Tryz.prog 127 #[.int .i64 n,.pointer (some ⟨Bb,0,none⟩)] w fun e w'=>e=.returned (.tuple #[])∧∃v',PutUp w Bb v w' v' (l++vint n):=by
 obtain ⟨i0,hti,hz0,hz1,hz2⟩:=info_parts byteInfo;have HH:=Lib.hid h;clear h
 go_enter Tryz.func127,Tryz.ntmps127
 go_wp2_with fail
 go_loopw [0] (fun i wr=>∃(m:Nat) (u:Value) (r:List Nat),i=.int .i64 m∧PutUp w Bb v wr u (l++r)∧r++vint m=vint n) (fun i _=>(intOf i).toNat)
 case atStart=>exact ⟨n,v,[],rfl,by rw[List.append_nil];exact PutUp.refl HH.out,rfl⟩
 case round=>
  obtain ⟨m,u,r,rfl,hM,hr⟩:=hrel;have P:=hM.rep;obtain ⟨wo,rfl⟩:∃wo:World,wo=wr:=⟨_,rfl⟩
  have hrl:r.length≤9:=by
   have h1:=vint_len 8 n hn;rw[←hr,List.length_append]at h1
   have:1≤(vint m).length:=by
    rw[vint];split <;> simp
   omega
  have hc0:wo.cell? ⟨Bb,0,none⟩=some u:=(cell_of_heap P.cell 0).trans rfl;have hf0:=free_of_heap P.cell 0;have hbl:=lt_of_block P.cell;obtain ⟨ua,uc,rfl,-,-⟩:=(own_off P.row).slice;rw[List.length_append]at P hM;have HP:=Lib.hid P;have HM:=Lib.hid hM;have Hr:=Lib.hid hr;clear P hM hr
  have hrow:wo.ownsRow 0 5 1 (.slice ua (l.length+r.length) uc) (l.length+r.length) ((l++r).map byteV):=by have:=HP.out.row;simpa only[List.length_append]using this
  have Hrow:=Lib.hid hrow;clear hrow
  have hne:(Value.slice ua (l.length+r.length) uc).ownBlock≠some Bb:=by have:=HP.out.ne;simpa only[List.length_append]using this
  have Hne:=Lib.hid hne;clear hne;have hcell:=HP.out.cell
  by_cases hlt:m<128
  ·have hd:decide ((128:Int)≤(m:Int))=false:=by simp;omega
   go_wp2_with (at_builtin;refine wpList_append_mine _ rfl (.tmp 13) (.tmp 16) 233 rfl 5 i0 (.int .u8 0) 1 1 Tryz.underlying233 hti hz0 hz1 hz2 rfl (by decide) (.slice ua (l.length+r.length) uc) (l.length+r.length) ((l++r).map byteV) rfl (by exact World.ownsRow.alloc Hrow.out _) ⟨wo.heap.size,0,none⟩ 1 1 [byteV m] rfl rfl (by exact new_cells_at _ _ _ rfl) (byte_one [m]) (by unfold maxLen;omega) (by omega) ?_;intro v4 w9 hown9 hgr9 hfr9 _;have hm9:Mod (fun x=>(Value.slice ua (l.length+r.length) uc).ownBlock=some x) wo w9:=appended hgr9 ((Mod.refl noF wo).alloc _);have hb9:=hm9.heap hcell Hne.out;have hc9:=cell_of_heap hb9 0;have hf9:=free_of_heap hb9 0;have hl9:=lt_of_block hb9;obtain ⟨ya,yb,yc,rfl⟩:=slice_of_own hown9;have Hown9:=Lib.hid hown9;have Hfr9:=Lib.hid hfr9;have Hfr9':∀g,(Value.slice ya yb yc).ownBlock=some g→(Value.slice ua (l.length+r.length) uc).ownBlock=some g∨wo.heap.size≤g:=(fun g hg=>(Hfr9.out g hg).imp id (fun h=>by simp at h;omega));have Hm9:=Lib.hid hm9;clear hown9 hgr9 hfr9 hm9 hb9)
   go_end0
   have HN:=HP.out.next (b:=m) (v':=.slice ya yb yc) (Mod.refl _ _) (by have:=Hown9.out;simpa only[List.length_append]using this) Hm9.out Hfr9'
   have e:l++r++[m]=l++vint n:=by rw[←Hr.out,vint_lo hlt,List.append_assoc]
   rw[e]at HN;exact ⟨rfl,_,HM.out.trans HN⟩
  ·have hd:decide ((128:Int)≤(m:Int))=true:=by simp;omega
   have hbits:=byte_or m
   go_wp2_with (at_builtin;refine wpList_append_mine _ rfl (.tmp 5) (.tmp 9) 233 rfl 5 i0 (.int .u8 0) 1 1 Tryz.underlying233 hti hz0 hz1 hz2 rfl (by decide) (.slice ua (l.length+r.length) uc) (l.length+r.length) ((l++r).map byteV) rfl (by exact World.ownsRow.alloc Hrow.out _) ⟨wo.heap.size,0,none⟩ 1 1 [.int .u8 ((m:Int) % 128+128)] rfl rfl (by exact new_cells_at _ _ _ rfl) (by intro u hu;simp at hu;subst hu;rfl) (by unfold maxLen;omega) (by omega) ?_;intro v4 w9 hown9 hgr9 hfr9 _;have hm9:Mod (fun x=>(Value.slice ua (l.length+r.length) uc).ownBlock=some x) wo w9:=appended hgr9 ((Mod.refl noF wo).alloc _);have hb9:=hm9.heap hcell Hne.out;have hc9:=cell_of_heap hb9 0;have hf9:=free_of_heap hb9 0;have hl9:=lt_of_block hb9;obtain ⟨ya,yb,yc,rfl⟩:=slice_of_own hown9;have Hown9:=Lib.hid hown9;have Hfr9:=Lib.hid hfr9;have Hfr9':∀g,(Value.slice ya yb yc).ownBlock=some g→(Value.slice ua (l.length+r.length) uc).ownBlock=some g∨wo.heap.size≤g:=(fun g hg=>(Hfr9.out g hg).imp id (fun h=>by simp at h;omega));have Hm9:=Lib.hid hm9;clear hown9 hgr9 hfr9 hm9 hb9)
   have ex:((m:Int) % 128+128)=((m % 128+128:Nat):Int):=by simp
   have HN:=HP.out.next (b:=m % 128+128) (v':=.slice ya yb yc) (Mod.refl _ _) (by have:=Hown9.out;rw[ex]at this;rw[List.length_append];exact this) Hm9.out Hfr9'
   refine ⟨⟨m/128,_,r++[m % 128+128],by simp,by rw[←List.append_assoc];exact HM.out.trans HN,by rw[←Hr.out,vint_hi (n:=m) (by omega)];simp⟩,by simp[intOf];omega⟩
def Nums(ns:List Nat):Prop:=ns.length≤100000∧∀n∈ns,n<128 ^ 9
theorem nums_len{ns:List Nat}(h:∀n∈ns,n<128 ^ 9):(ns.flatMap vint).length≤9*ns.length:=by
 induction ns with
 |nil=>simp
 |cons n ns ih=>
  have h1:=vint_len 8 n (h n (by simp));have h2:=ih (fun m hm=>h m (by simp[hm]));simp only[List.flatMap_cons,List.length_append,List.length_cons];omega
abbrev putF(Bb:Nat):Value:=.func (.func 127) #[] #[.pointer (some ⟨Bb,0,none⟩)]
theorem put_num{ns:List Nat}(h:PutSt w Bb v (ns.flatMap vint))(hns:Nums ns)(n:Nat)(hn:n<128 ^ 9) :
  Calls Tryz.prog 127 #[.int .i64 n,.pointer (some ⟨Bb,0,none⟩)] w fun e w'=>e=.returned (.tuple #[])∧∃v',PutUp w Bb v w' v' ((ns++[n]).flatMap vint):=by
 refine (put_any h n hn (by have:=nums_len hns.2;have:=hns.1;omega)).mono ?_;rintro e w' ⟨rfl,v',U⟩;refine ⟨rfl,v',?_⟩;rw[List.flatMap_append]
 simpa using U
end
section
open Go.RowKit Qs Qh
variable {w w1 w2 w':World}{Bb b g:Nat}{v v':Value}{l:List Cell}{ns:List Nat}
theorem words4{l:List Int}(h4:l.length=4)(h:∀v∈l,0≤v∧v<4294967296):∃n0 n1 n2 n3:Nat,l=[(n0:Int),n1,n2,n3]∧n0<4294967296∧n1<4294967296∧n2<4294967296∧n3<4294967296:=by
 match l,h4 with
 |[a,b,c,d],_=>
  have ha:=h a (by simp);have hb:=h b (by simp);have hc:=h c (by simp);have hd:=h d (by simp);refine ⟨a.toNat,b.toNat,c.toNat,d.toNat,?_,by omega,by omega,by omega,by omega⟩;rw[Int.toNat_of_nonneg ha.1,Int.toNat_of_nonneg hb.1,Int.toNat_of_nonneg hc.1,Int.toNat_of_nonneg hd.1]
theorem idx4_0(a b c d:Value)(w:World):(Instr.index 218 (.agg #[a,b,c,d]) (.int .i64 0)).run Tryz.prog w=.ok a w:=by kernel_rfl
theorem idx4_1(a b c d:Value)(w:World):(Instr.index 218 (.agg #[a,b,c,d]) (.int .i64 1)).run Tryz.prog w=.ok b w:=by kernel_rfl
theorem idx4_2(a b c d:Value)(w:World):(Instr.index 218 (.agg #[a,b,c,d]) (.int .i64 2)).run Tryz.prog w=.ok c w:=by kernel_rfl
theorem idx4_3(a b c d:Value)(w:World):(Instr.index 218 (.agg #[a,b,c,d]) (.int .i64 3)).run Tryz.prog w=.ok d w:=by kernel_rfl
theorem cell_nums{c:Cell}(h4:c.words.length=4)(hw:∀v∈c.words,0≤v∧v<4294967296)(ht:0≤c.times∧c.times≤1000000000):c.told.length≤6∧∀n∈c.told,n<128 ^ 9:=by
 obtain ⟨n0,n1,n2,n3,e,h0,h1,h2,h3⟩:=words4 h4 hw;unfold Cell.told;rw[e]
 split
 ·refine ⟨by simp,fun n hn=>?_⟩;simp at hn
  rcases hn with rfl|rfl|rfl|rfl|rfl|rfl <;> omega
 ·refine ⟨by simp,fun n hn=>?_⟩;simp at hn
  rcases hn with rfl|rfl <;> omega
theorem flat_nums{α : Type}{f : α→List Nat}{m:Nat}:∀ {l:List α},(∀x∈l,(f x).length≤m∧∀n∈f x,n<128 ^ 9)→(l.flatMap f).length≤m*l.length∧∀n∈l.flatMap f,n<128 ^ 9
 |[],_=>by simp
 |x :: l,h=>by
  obtain ⟨h1,h2⟩:=h x (by simp);obtain ⟨h3,h4⟩:=flat_nums (l:=l) fun y hy=>h y (by simp[hy]);refine ⟨?_,fun n hn=>?_⟩
  ·simp only[List.flatMap_cons,List.length_append,List.length_cons];rw[Nat.mul_succ];omega
  ·rw[List.flatMap_cons]at hn;exact (List.mem_append.1 hn).elim (h2 n) (h4 n)
theorem nums_app{a b:List Nat}(ha:a.length≤2000∧∀n∈a,n<128 ^ 9)(hb:b.length≤2000∧∀n∈b,n<128 ^ 9):Nums (a++b):=
 ⟨by rw[List.length_append];omega,fun n hn=>(List.mem_append.1 hn).elim (ha.2 n) (hb.2 n)⟩
theorem Nums.more{a b:List Nat}(h:Nums a)(hl:a.length≤5000)(hb:b.length≤10)(hb2:∀n∈b,n<128 ^ 9):Nums (a++b):=
 ⟨by rw[List.length_append];omega,fun n hn=>(List.mem_append.1 hn).elim (h.2 n) (hb2 n)⟩
theorem flat_snoc{α : Type}{f : α→List Nat}{l:List α}{k:Nat}{x : α}(hx:l[k]?=some x):(l.take (k+1)).flatMap f=(l.take k).flatMap f++f x:=by
 have hlt:=(List.getElem?_eq_some_iff.1 hx).1;rw[List.take_succ_eq_append_getElem hlt,List.flatMap_append];rw[List.getElem?_eq_getElem hlt]at hx;cases hx;simp
theorem PutUp.cast{l1 l2:List Nat}(h:PutUp w Bb v w' v' l1)(e:l1=l2):PutUp w Bb v w' v' l2:=e ▸ h
theorem atold_any(R:AAt w b g l)(hb:¬PutFoot Bb v b)(hg:¬PutFoot Bb v g)(P:PutSt w Bb v (ns.flatMap vint))(hn:l.length≤64)(hns:ns.length≤1000)(hnb:∀n∈ns,n<128 ^ 9)
  (hw:∀(i:Nat) c,l[i]?=some c→c.words.length=4∧∀v∈c.words,0≤v∧v<4294967296) (ht:∀(i:Nat) c,l[i]?=some c→0≤c.times∧c.times≤1000000000) :
  Calls Tryz.prog 135 #[.pointer (some ⟨b,0,none⟩),putF Bb] w fun e w'=>e=.returned (.tuple #[])∧∃v',PutUp w Bb v w' v' ((ns++l.flatMap Cell.told).flatMap vint):=by
 obtain ⟨ka,h0⟩:=R.slice;obtain ⟨lb,lg⟩:=R.lt;have HR:=Lib.hid R;have Hb:=Lib.hid hb;have Hg:=Lib.hid hg;have HP:=Lib.hid P;have Hw:=Lib.hid hw;have Ht:=Lib.hid ht;clear R hb hg P hw ht
 go_enter Tryz.func135,Tryz.ntmps135
 go_wp2_with fail
 go_loopw [13] (fun i wr=>∃(k:Nat) (u:Value),k≤l.length∧i=.int .i64 k∧PutUp w Bb v wr u ((ns++(l.take k).flatMap Cell.told).flatMap vint)) (fun i _=>l.length - (intOf i).toNat)
 case atStart=>exact ⟨0,v,Nat.zero_le _,rfl,by simpa using PutUp.refl HP.out⟩
 case round=>
  obtain ⟨k,u,hk,rfl,U⟩:=hrel;obtain ⟨wo,rfl⟩:∃wo:World,wo=wr:=⟨_,rfl⟩;have HU:=Lib.hid U
  by_cases hlt:k<l.length
  ·have hd:decide ((k:Int)<(l.length:Int))=true:=by simp;omega
   have hki:(k:Int)<(l.length:Int):=by omega
   have R1:=HR.out.keep HU.out.mod Hb.out Hg.out;obtain ⟨x,hx⟩:∃x,l[k]?=some x:=⟨_,List.getElem?_eq_getElem hlt⟩;obtain ⟨hx4,hxw⟩:=Hw.out k x hx;obtain ⟨ht0,ht1⟩:=Ht.out k x hx;obtain ⟨n0,n1,n2,n3,ew,b0,b1,b2,b3⟩:=words4 hx4 hxw;obtain ⟨nt,hnt⟩:∃nt:Nat,x.times=(nt:Int):=⟨x.times.toNat,by omega⟩
   have hntb:nt≤1000000000:=by omega
   have a0:wo.cell? ⟨g,k*6,none⟩=some (.int .i64 n0):=(R1.cell hx (j:=0) (by omega)).trans (by simp[acell,iv,ew]);have a1:wo.cell? ⟨g,k*6+1,none⟩=some (.int .i64 n1):=(R1.cell hx (j:=1) (by omega)).trans (by simp[acell,iv,ew])
   have a2:wo.cell? ⟨g,k*6+2,none⟩=some (.int .i64 n2):=(R1.cell hx (j:=2) (by omega)).trans (by simp[acell,iv,ew]);have a3:wo.cell? ⟨g,k*6+3,none⟩=some (.int .i64 n3):=(R1.cell hx (j:=3) (by omega)).trans (by simp[acell,iv,ew])
   have a4:wo.cell? ⟨g,k*6+4,none⟩=some (.int .i64 nt):=(R1.cell hx (j:=4) (by omega)).trans (by simp[acell,iv,hnt]);have a5:wo.cell? ⟨g,k*6+5,none⟩=some (.bool x.here):=(R1.cell hx (j:=5) (by omega)).trans (by simp[acell]);have lg1:=R1.lt.2;have hsn:=flat_snoc (f:=Cell.told) hx
   have hmore:=flat_nums (f:=Cell.told) (m:=6) (l:=l.take k) (fun y hy=>by
    obtain ⟨i,hi⟩:=List.mem_iff_getElem?.1 (List.mem_of_mem_take hy)
    exact cell_nums (Hw.out i y hi).1 (Hw.out i y hi).2 (Ht.out i y hi))
   have hN1:(ns++(l.take k).flatMap Cell.told).length≤1400∧Nums (ns++(l.take k).flatMap Cell.told):=by
    have:=hmore.1;rw[List.length_take]at this;exact ⟨by rw[List.length_append];omega,nums_app ⟨by omega,hnb⟩ ⟨by omega,hmore.2⟩⟩
   have htold:x.told=nt :: (if x.here then [1,n0,n1,n2,n3]else [0]):=by
    unfold Cell.told;rw[hnt,ew]
    split <;> simp
   have HN1:=Lib.hid hN1;have Hsn:=Lib.hid hsn;have Htold:=Lib.hid htold;have hnf0:¬PutFoot Bb u wo.heap.size:=fun e=>absurd (U.rep.lt e) (Nat.lt_irrefl _);have Hnf0:=Lib.hid hnf0;have Hnb:=Lib.hid hnb;clear hsn htold hnf0 hmore hN1 R1 hxw ew hx ht0 ht1 hnb U
   generalize (l.take k).flatMap Cell.told=tk at *;generalize x.here=xh at *
   go_wp2_with fail
   refine (put_num (HU.out.rep.keep0 ((Mod.refl noF wo).alloc _)) HN1.out.2 nt (by omega)).mono ?_;rintro e w5 ⟨rfl,v5,U5⟩;obtain ⟨hb5,nf5⟩:=U5.out Hnf0.out (heap_alloc_new wo _);have V5:=HU.out.trans (PutUp.after ((Mod.refl noF wo).alloc _) U5);have HV5:=Lib.hid V5;have Hnf5:=Lib.hid nf5
   have hl5:=lt_of_block hb5;have HB5:=Lib.hid hb5;have d5:w5.cell? ⟨wo.heap.size,5,none⟩=some (.bool xh):=(cell_of_heap hb5 5).trans rfl;clear U5 V5 nf5 hb5
   cases xh with
   |false=>
    go_wp2_with fail
    refine (put_num HV5.out.rep (HN1.out.2.more (by have:=HN1.out.1;omega) (by simp) (by intro n hn;simp at hn;omega)) 0 (by omega)).mono ?_;rintro e w6 ⟨rfl,v6,U6⟩;have HV6:=Lib.hid (HV5.out.trans U6);clear U6;go_wp2
    go_roundw
    case rel=>exact ⟨k+1,v6,by omega,by go_num,HV6.out.cast (by rw[Hsn.out,Htold.out];simp)⟩
    case measure=>simp[intOf];omega
   |true=>
    go_wp2_with fail
    refine (put_num HV5.out.rep (HN1.out.2.more (by have:=HN1.out.1;omega) (by simp) (by intro n hn;simp at hn;omega)) 1 (by omega)).mono ?_;rintro e w6 ⟨rfl,v6,U6⟩;obtain ⟨hb6,nf6⟩:=U6.out Hnf5.out HB5.out;have HV6:=Lib.hid (HV5.out.trans U6)
    have e0:w6.cell? ⟨wo.heap.size,0,none⟩=some (.int .i64 n0):=(cell_of_heap hb6 0).trans rfl;have e1:w6.cell? ⟨wo.heap.size,1,none⟩=some (.int .i64 n1):=(cell_of_heap hb6 1).trans rfl;have e2:w6.cell? ⟨wo.heap.size,2,none⟩=some (.int .i64 n2):=(cell_of_heap hb6 2).trans rfl
    have e3:w6.cell? ⟨wo.heap.size,3,none⟩=some (.int .i64 n3):=(cell_of_heap hb6 3).trans rfl;have hl6:=lt_of_block hb6;clear U6 hb6 nf6
    go_wp2_with fail
    go_loopw [30] (fun i wr=>∃(r:Nat) (u':Value),r≤4∧i=.int .i64 r∧PutUp w Bb v wr u' ((ns++tk++[nt]++[1]++[n0,n1,n2,n3].take r).flatMap vint)) (fun i _=>4 - (intOf i).toNat)
    case atStart=>exact ⟨0,v6,by omega,rfl,by simpa using HV6.out⟩
    case round=>
     obtain ⟨r,u',hr,rfl,U7⟩:=hrel;obtain ⟨wi,rfl⟩:∃wi:World,wi=wr:=⟨_,rfl⟩;have HU7:=Lib.hid U7
     have hN7:Nums (ns++tk++[nt]++[1]++[n0,n1,n2,n3].take r):=by
      have:=HN1.out.1;refine ⟨by simp only[List.length_append,List.length_take,List.length_cons,List.length_nil]at *;omega,fun n hn=>?_⟩
      rcases List.mem_append.1 hn with h|h
      ·simp only[List.append_assoc]at h;rw[←List.append_assoc]at h
       rcases List.mem_append.1 h with h|h
       ·exact HN1.out.2.2 n h
       ·simp at h;omega
      ·have:=List.mem_of_mem_take h;simp at this;omega
     have HN7:=Lib.hid hN7;clear hN7 U7
     by_cases h4:r<4
     ·have hd4:decide ((r:Int)<4)=true:=by simp;omega
      have hr4:r=0∨r=1∨r=2∨r=3:=by omega
      have hix0:=idx4_0 (.int .i64 n0) (.int .i64 n1) (.int .i64 n2) (.int .i64 n3);have hix1:=idx4_1 (.int .i64 n0) (.int .i64 n1) (.int .i64 n2) (.int .i64 n3);have hix2:=idx4_2 (.int .i64 n0) (.int .i64 n1) (.int .i64 n2) (.int .i64 n3)
      have hix3:=idx4_3 (.int .i64 n0) (.int .i64 n1) (.int .i64 n2) (.int .i64 n3)
      rcases hr4 with rfl|rfl|rfl|rfl
      all_goals
       go_wp2_with fail
       refine (put_num HU7.out.rep HN7.out _ ?_).mono ?_
       ·omega
       rintro e w8 ⟨rfl,v8,U8⟩;have HV8:=Lib.hid (HU7.out.trans U8);clear U8;go_wp2
       go_roundw
       case rel=>first|exact ⟨1,v8,by omega,by go_num,HV8.out.cast (by simp)⟩|exact ⟨2,v8,by omega,by go_num,HV8.out.cast (by simp)⟩|exact ⟨3,v8,by omega,by go_num,HV8.out.cast (by simp)⟩|exact ⟨4,v8,by omega,by go_num,HV8.out.cast (by simp)⟩
       case measure=>simp[intOf]
     ·have hd4:decide ((r:Int)<4)=false:=by simp;omega
      obtain rfl:r=4:=by omega
      go_wp2
      go_roundw
      case rel=>exact ⟨k+1,u',by omega,by go_num,HU7.out.cast (by rw[Hsn.out,Htold.out];simp)⟩
      case measure=>simp[intOf];omega
  ·have hd:decide ((k:Int)<(l.length:Int))=false:=by simp;omega
   obtain rfl:k=l.length:=by omega
   rw[List.take_length]at HU;go_wp2
   go_end0
   exact ⟨rfl,u,HU.out⟩
end
section
open Go.RowKit Qs Qh
variable {w w1 w2 w':World}{Bb:Nat}{B:PB}{v v':Value}{l:List Cell}{ws:List (List Wt)}{vs:List Value}{ns:List Nat}
theorem Nums.cast{a b:List Nat}(h:Nums a)(e:a=b):Nums b:=e ▸ h
def WtNat(x:Wt):Prop:=∃c g i v:Nat,x=⟨c,g,i,v⟩∧c<4294967296∧g<4294967296∧i<4294967296∧v<4294967296
theorem wt_nums{x:Wt}(h:WtNat x):x.told.length≤4∧∀n∈x.told,n<128 ^ 9:=by
 obtain ⟨c,g,i,v,rfl,h1,h2,h3,h4⟩:=h;refine ⟨by simp[Wt.told],fun n hn=>?_⟩;simp[Wt.told]at hn
 rcases hn with rfl|rfl|rfl|rfl <;> omega
theorem row_nums{q:List Wt}(h8:q.length≤8)(h:∀x∈q,WtNat x):(rowTold q).length≤33∧∀n∈rowTold q,n<128 ^ 9:=by
 obtain ⟨h1,h2⟩:=flat_nums (f:=Wt.told) (m:=4) (l:=q) fun x hx=>wt_nums (h x hx);refine ⟨by simp only[rowTold,List.length_cons];omega,fun n hn=>?_⟩
 rcases List.mem_cons.1 hn with e|e
 ·omega
 ·exact h2 n e
theorem mtold_any(H:PMV w B l ws vs)(hf:∀x,PFoot B vs x→¬PutFoot Bb v x)(P:PutSt w Bb v (ns.flatMap vint))(hn:l.length≤64)(hns:ns.length≤10)(hnb:∀n∈ns,n<128 ^ 9)
  (hw:∀(i:Nat) c,l[i]?=some c→c.words.length=4∧∀v∈c.words,0≤v∧v<4294967296) (ht:∀(i:Nat) c,l[i]?=some c→0≤c.times∧c.times≤1000000000)
  (h6:ws.length≤6) (hq:∀(t:Nat) q,ws[t]?=some q→q.length≤8∧∀x∈q,WtNat x) :
  Calls Tryz.prog 128 #[.pointer (some ⟨B.bM,0,none⟩),putF Bb] w fun e w'=>e=.returned (.tuple #[])∧∃v',PutUp w Bb v w' v' ((ns++l.flatMap Cell.told++ws.flatMap rowTold).flatMap vint):=by
 have p0:=H.ptr;obtain ⟨kw,p1⟩:=H.slice;have pM:=hf B.bM (.inl rfl);have lM:=H.lt (x:=B.bM) (.inl rfl);have hA:=atold_any H.arena (hf _ (.inr (.inl rfl))) (hf _ (.inr (.inr (.inl rfl)))) P hn (by omega) hnb hw ht
 have hcn:(ns++l.flatMap Cell.told).length≤400∧∀n∈ns++l.flatMap Cell.told,n<128 ^ 9:=by
  obtain ⟨h1,h2⟩:=flat_nums (f:=Cell.told) (m:=6) (l:=l) fun y hy=>by
   obtain ⟨i,hi⟩:=List.mem_iff_getElem?.1 hy;exact cell_nums (hw i y hi).1 (hw i y hi).2 (ht i y hi)
  exact ⟨by rw[List.length_append];omega,fun n hn=>(List.mem_append.1 hn).elim (hnb n) (h2 n)⟩
 have HH:=Lib.hid H;have Hf:=Lib.hid hf;have HA:=Lib.hid hA;have Hcn:=Lib.hid hcn;have Hq:=Lib.hid hq;have HpM:=Lib.hid pM;clear H hf hA hcn hw ht hnb hq P pM;generalize ns++l.flatMap Cell.told=nc at *
 go_enter Tryz.func128,Tryz.ntmps128
 go_wp2_with fail
 refine HA.out.mono ?_;rintro e w1 ⟨rfl,v1,U1⟩;have q1:=U1.mod.cell p1 HpM.out;have lM1:=Nat.lt_of_lt_of_le lM U1.mod.size;have HU1:=Lib.hid U1;clear U1 p0 p1 HA
 go_wp2_with fail
 go_loopw [19] (fun i wr=>∃(k:Nat) (u:Value),k≤ws.length∧i=.int .i64 k∧PutUp w Bb v wr u ((nc++(ws.take k).flatMap rowTold).flatMap vint)) (fun i _=>ws.length - (intOf i).toNat)
 case atStart=>exact ⟨0,v1,Nat.zero_le _,rfl,by simpa using HU1.out⟩
 case round=>
  obtain ⟨k,u,hk,rfl,U⟩:=hrel;obtain ⟨wo,rfl⟩:∃wo:World,wo=wr:=⟨_,rfl⟩;have HU:=Lib.hid U
  by_cases hlt:k<ws.length
  ·have hd:decide ((k:Int)<(ws.length:Int))=true:=by simp;omega
   have hki:(k:Int)<(ws.length:Int):=by omega
   obtain ⟨q,hqk⟩:∃q,ws[k]?=some q:=⟨_,List.getElem?_eq_getElem hlt⟩;obtain ⟨vk,a,c,hvk,rfl,k1,k2,hcell,hrow⟩:=HH.out.rowAt hqk;obtain ⟨hq8,hqx⟩:=Hq.out k q hqk;have c0:=U.mod.cell hcell (Hf.out _ (.inr (.inr (.inr (.inl rfl)))))
   have lW:=Nat.lt_of_lt_of_le (HH.out.lt (x:=B.bW) (.inr (.inr (.inr (.inl rfl))))) U.mod.size;have hro:∀g,(Value.slice a q.length c).ownBlock=some g→¬PutFoot Bb v g:=fun g hg=>Hf.out g (.inr (.inr (.inr (.inr ⟨_,List.mem_of_getElem? hvk,hg⟩))))
   have hmore:=flat_nums (f:=rowTold) (m:=33) (l:=ws.take k) (fun y hy=>by
    obtain ⟨i,hi⟩:=List.mem_iff_getElem?.1 (List.mem_of_mem_take hy)
    exact row_nums (Hq.out i y hi).1 (Hq.out i y hi).2)
   have hN1:(nc++(ws.take k).flatMap rowTold).length≤700∧Nums (nc++(ws.take k).flatMap rowTold):=by
    have:=hmore.1;rw[List.length_take]at this;have:=Hcn.out.1;exact ⟨by rw[List.length_append];omega,nums_app ⟨by omega,Hcn.out.2⟩ ⟨by omega,hmore.2⟩⟩
   have HN1:=Lib.hid hN1;have Hsn:=Lib.hid (flat_snoc (f:=rowTold) hqk);have Hrow:=Lib.hid hrow;have Hro:=Lib.hid hro;have Hqx:=Lib.hid hqx;clear hN1 hmore hrow hro hcell hqk hvk U hqx;generalize (ws.take k).flatMap rowTold=tk at *
   go_wp2_with fail
   refine (put_num HU.out.rep HN1.out.2 q.length (by omega)).mono ?_;rintro e w5 ⟨rfl,v5,U5⟩;have HV5:=Lib.hid (HU.out.trans U5);clear U5
   go_wp2_with fail
   go_loopw [29] (fun i wr=>∃(r:Nat) (u':Value),r≤q.length∧i=.int .i64 r∧PutUp w Bb v wr u' ((nc++tk++[q.length]++(q.take r).flatMap Wt.told).flatMap vint)) (fun i _=>q.length - (intOf i).toNat)
   case atStart=>exact ⟨0,v5,by omega,rfl,by simpa using HV5.out⟩
   case round=>
    obtain ⟨r,u',hr,rfl,U7⟩:=hrel;obtain ⟨wi,rfl⟩:∃wi:World,wi=wr:=⟨_,rfl⟩;have HU7:=Lib.hid U7
    by_cases h4:r<q.length
    ·have hd4:decide ((r:Int)<(q.length:Int))=true:=by simp;omega
     have hri:(r:Int)<(q.length:Int):=by omega
     obtain ⟨x,hx⟩:∃x,q[r]?=some x:=⟨_,List.getElem?_eq_getElem h4⟩;obtain ⟨xc,xg,xi,xv,rfl,b1,b2,b3,b4⟩:=Hqx.out x (List.mem_of_getElem? hx);have hri':=Hrow.out.keep U7.mod Hro.out;obtain ⟨g,s,c',hag,hgl,-,hcl⟩:=hri'.cell (by omega);cases hag
     have hget:∀(j:Nat) (u:Value),j<4→(wtVals 0 ⟨xc,xg,xi,xv⟩)[j]?=some u→(flat wtVals 0 q)[r*4+j]?=some u:=fun j u hj hu=>by
      have:=flat_get wtVals 4 (fun _ _=>rfl) hj q 0 r _ hx [];rw[List.append_nil]at this;rw[this];exact hu
     have d0:wi.cell? ⟨g,s+r*4,none⟩=some (.int .i64 xc):=hcl (r*4) _ (hget 0 _ (by omega) rfl)
     have d1:wi.cell? ⟨g,s+r*4+1,none⟩=some (.int .i64 xg):=by have:=hcl (r*4+1) _ (hget 1 _ (by omega) rfl);rwa [←Nat.add_assoc]at this
     have d2:wi.cell? ⟨g,s+r*4+2,none⟩=some (.int .i64 xi):=by have:=hcl (r*4+2) _ (hget 2 _ (by omega) rfl);rwa [←Nat.add_assoc]at this
     have d3:wi.cell? ⟨g,s+r*4+3,none⟩=some (.int .i64 xv):=by have:=hcl (r*4+3) _ (hget 3 _ (by omega) rfl);rwa [←Nat.add_assoc]at this
     have hN7:(nc++tk++[q.length]++(q.take r).flatMap Wt.told).length≤800∧Nums (nc++tk++[q.length]++(q.take r).flatMap Wt.told):=by
      have h1:=HN1.out.1;obtain ⟨h2,h3⟩:=flat_nums (f:=Wt.told) (m:=4) (l:=q.take r) fun y hy=>wt_nums (Hqx.out y (List.mem_of_mem_take hy));rw[List.length_take]at h2;have h4':=(HN1.out.2.more (b:=[q.length]) (by omega) (by simp) (by intro n hn;simp at hn;omega)).2
      have h5:(nc++tk++[q.length]).length≤701:=by rw[List.length_append];simp;rw[List.length_append]at h1;omega
      exact ⟨by rw[List.length_append];omega,nums_app ⟨by omega,h4'⟩ ⟨by omega,h3⟩⟩
     have Hsq:=Lib.hid (flat_snoc (f:=Wt.told) hx);have hnf:¬PutFoot Bb u' wi.heap.size:=fun e=>absurd (U7.rep.lt e) (Nat.lt_irrefl _);have Hnf:=Lib.hid hnf;have HN7:=Lib.hid hN7;clear hN7 U7 hnf hget hcl hri' hx;generalize (q.take r).flatMap Wt.told=tq at *
     go_wp2_with fail
     refine (put_num (HU7.out.rep.keep0 ((Mod.refl noF wi).alloc _)) HN7.out.2 xc (by omega)).mono ?_;rintro e x1 ⟨rfl,y1,Y1⟩;obtain ⟨hb1,nf1⟩:=Y1.out Hnf.out (heap_alloc_new wi _);have HZ1:=Lib.hid (HU7.out.trans (PutUp.after ((Mod.refl noF wi).alloc _) Y1));have hl1:=lt_of_block hb1
     have g1:x1.cell? ⟨wi.heap.size,1,none⟩=some (.int .i64 xg):=(cell_of_heap hb1 1).trans rfl;have Hb1:=Lib.hid hb1;have Hnf1:=Lib.hid nf1;clear Y1 hb1 nf1
     go_wp2_with fail
     refine (put_num HZ1.out.rep (HN7.out.2.more (by have:=HN7.out.1;omega) (by simp) (by intro n hn;simp at hn;omega)) xg (by omega)).mono ?_;rintro e x2 ⟨rfl,y2,Y2⟩;obtain ⟨hb2,nf2⟩:=Y2.out Hnf1.out Hb1.out;have HZ2:=Lib.hid (HZ1.out.trans Y2);have hl2:=lt_of_block hb2
     have g2:x2.cell? ⟨wi.heap.size,2,none⟩=some (.int .i64 xi):=(cell_of_heap hb2 2).trans rfl;have Hb2:=Lib.hid hb2;have Hnf2:=Lib.hid nf2;clear Y2 hb2 nf2
     go_wp2_with fail
     refine (put_num HZ2.out.rep ((HN7.out.2.more (b:=[xc]++[xg]) (by have:=HN7.out.1;omega) (by simp) (by intro n hn;simp at hn;omega)).cast (by simp)) xi (by omega)).mono ?_;rintro e x3 ⟨rfl,y3,Y3⟩;obtain ⟨hb3,nf3⟩:=Y3.out Hnf2.out Hb2.out;have HZ3:=Lib.hid (HZ2.out.trans Y3)
     have hl3:=lt_of_block hb3;have g3:x3.cell? ⟨wi.heap.size,3,none⟩=some (.int .i64 xv):=(cell_of_heap hb3 3).trans rfl;clear Y3 hb3 nf3
     go_wp2_with fail
     refine (put_num HZ3.out.rep ((HN7.out.2.more (b:=[xc]++[xg]++[xi]) (by have:=HN7.out.1;omega) (by simp) (by intro n hn;simp at hn;omega)).cast (by simp)) xv (by omega)).mono ?_;rintro e x4 ⟨rfl,y4,Y4⟩;have HZ4:=Lib.hid (HZ3.out.trans Y4);clear Y4;go_wp2
     go_roundw
     case rel=>exact ⟨r+1,y4,by omega,by go_num,HZ4.out.cast (by rw[Hsq.out];simp[Wt.told])⟩
     case measure=>simp[intOf];omega
    ·have hd4:decide ((r:Int)<(q.length:Int))=false:=by simp;omega
     obtain rfl:r=q.length:=by omega
     rw[List.take_length]at HU7;go_wp2
     go_roundw
     case rel=>exact ⟨k+1,u',by omega,by go_num,HU7.out.cast (by rw[Hsn.out];simp[rowTold])⟩
     case measure=>simp[intOf];omega
  ·have hd:decide ((k:Int)<(ws.length:Int))=false:=by simp;omega
   obtain rfl:k=ws.length:=by omega
   rw[List.take_length]at HU;go_wp2
   go_end0
   exact ⟨rfl,u,HU.out⟩
end
section
open Go.RowKit Qs Qh
variable {w w1 w2 w':World}{Bb:Nat}{X:XB}{vs:List Value}{mv v v':Value}{m:M}{N:Int}
def bytesOf(l:List Nat):ByteArray:=⟨(l.map UInt8.ofNat).toArray⟩
theorem conv_put{l:List Nat}(h:PutSt w Bb v l)(hb:∀b∈l,b<256):(convert 233 9 v).run Tryz.prog w=.ok (.string (bytesOf l)) w:=by
 rcases h.row.2 with ⟨rfl,h0⟩|⟨g,cap,cur,rfl,_,hg,h1,h2,h3,h4⟩
 ·obtain rfl:l=[]:=List.eq_nil_of_length_eq_zero h0;rw[run_convert_bytes_string w _ _ 5 none 0 0 Tryz.underlying233 Tryz.underlying5 Tryz.underlying9];simp[Conv.bytesToString];rfl
 ·have hl:l.length=(l.map UInt8.ofNat).length:=by simp
  have hcell:∀(j:Nat) (hj:j<(l.map UInt8.ofNat).length),w.cell? ((⟨g,0,none⟩:Addr).add j)=some (.int .u8 (((l.map UInt8.ofNat)[j].toNat:Nat):Int)):=fun j hj=>by
   have hj':j<l.length:=by simpa using hj
   rw[add_at,cell_of_heap hg,Nat.zero_add]
   have e:cur[j]?=(cur.toList.take (l.length*1))[j]?:=by
    rw[List.getElem?_take,if_pos (by omega)];simp
   rw[e,h4,List.getElem?_map,List.getElem?_eq_getElem hj'];have h256:=hb l[j] (List.getElem_mem hj');simp only[List.getElem_map,Option.map_some,byteV]
   congr 2
   have:(UInt8.ofNat l[j]).toNat=l[j]:=by simp;omega
   rw[this]
  have:=run_convert_bytes_back (P:=Tryz.prog) w 233 9 5 ⟨g,0,none⟩ cap (l.map UInt8.ofNat) Tryz.underlying233 Tryz.underlying5 Tryz.underlying9 hcell;rw[←hl]at this;exact this
theorem idx8_0(a b c d e f g h:Value)(w:World):(Instr.index 97 (.agg #[a,b,c,d,e,f,g,h]) (.int .i64 0)).run Tryz.prog w=.ok a w:=by kernel_rfl
theorem idx8_1(a b c d e f g h:Value)(w:World):(Instr.index 97 (.agg #[a,b,c,d,e,f,g,h]) (.int .i64 1)).run Tryz.prog w=.ok b w:=by kernel_rfl
theorem idx8_2(a b c d e f g h:Value)(w:World):(Instr.index 97 (.agg #[a,b,c,d,e,f,g,h]) (.int .i64 2)).run Tryz.prog w=.ok c w:=by kernel_rfl
theorem idx8_3(a b c d e f g h:Value)(w:World):(Instr.index 97 (.agg #[a,b,c,d,e,f,g,h]) (.int .i64 3)).run Tryz.prog w=.ok d w:=by kernel_rfl
theorem idx8_4(a b c d e f g h:Value)(w:World):(Instr.index 97 (.agg #[a,b,c,d,e,f,g,h]) (.int .i64 4)).run Tryz.prog w=.ok e w:=by kernel_rfl
theorem idx8_5(a b c d e f g h:Value)(w:World):(Instr.index 97 (.agg #[a,b,c,d,e,f,g,h]) (.int .i64 5)).run Tryz.prog w=.ok f w:=by kernel_rfl
theorem idx8_6(a b c d e f g h:Value)(w:World):(Instr.index 97 (.agg #[a,b,c,d,e,f,g,h]) (.int .i64 6)).run Tryz.prog w=.ok g w:=by kernel_rfl
theorem idx8_7(a b c d e f g h:Value)(w:World):(Instr.index 97 (.agg #[a,b,c,d,e,f,g,h]) (.int .i64 7)).run Tryz.prog w=.ok h w:=by kernel_rfl
theorem words8{l:List Int}(h8:l.length=8)(h:∀v∈l,0≤v∧v<4294967296):∃n0 n1 n2 n3 n4 n5 n6 n7:Nat,l=[(n0:Int),n1,n2,n3,n4,n5,n6,n7]∧(n0<4294967296∧n1<4294967296∧n2<4294967296∧n3<4294967296)∧n4<4294967296∧n5<4294967296∧n6<4294967296∧n7<4294967296:=by
 obtain ⟨a,b,e⟩:∃a b,l=a++b∧a.length=4∧b.length=4:=⟨l.take 4,l.drop 4,by simp,by simp;omega,by simp;omega⟩;obtain ⟨rfl,ha,hb⟩:=e;obtain ⟨n0,n1,n2,n3,rfl,h0,h1,h2,h3⟩:=words4 ha (fun v hv=>h v (by simp[hv]));obtain ⟨n4,n5,n6,n7,rfl,h4,h5,h6,h7⟩:=words4 hb (fun v hv=>h v (by simp[hv]))
 exact ⟨n0,n1,n2,n3,n4,n5,n6,n7,rfl,⟨h0,h1,h2,h3⟩,h4,h5,h6,h7⟩
theorem vint_bytes{ns:List Nat}(h:∀n∈ns,n<128 ^ 9):∀b∈ns.flatMap vint,b<256:=fun b hb=>by
 obtain ⟨n,hn,hb⟩:=List.mem_flatMap.1 hb;exact vint_byte 8 n (h n hn) b hb
theorem word_nat{v:Int}(h:isWord v=true):0≤v∧v<4294967296:=by
 simp[isWord]at h;omega
theorem thr_nums{h:Thr}(hr:h.regs.length=8∧∀v∈h.regs,isWord v=true)(hp:h.pc≤1000000):h.told.length≤9∧∀n∈h.told,n<128 ^ 9:=by
 refine ⟨by simp[Thr.told,hr.1],fun n hn=>?_⟩
 rcases List.mem_cons.1 hn with e|e
 ·omega
 ·obtain ⟨v,hv,rfl⟩:=List.mem_map.1 e;have:=word_nat (hr.2 v hv);omega
theorem key_any(H:PX w X vs mv m N)(hN:N≤1000000000) :
  Calls Tryz.prog 106 #[.pointer (some ⟨X.bX,0,none⟩)] w fun e w'=>e=.returned (.string (bytesOf m.key))∧Mod noF w w':=by
 obtain ⟨p0,p1,-,-,-,p5⟩:=H.p.top_at;have ht6:=H.t6;obtain ⟨w1,hw1⟩:∃w1,w1=w.alloc (.cells #[.slice none 0 0] 233):=⟨_,rfl⟩
 have hm1:Mod noF w w1:=by rw[hw1];exact (Mod.refl noF w).alloc _
 have P1:PutSt w1 w.heap.size (.slice none 0 0) (([]:List Nat).flatMap vint):=⟨by rw[hw1];exact heap_alloc_new w _,World.ownsRow_nil _ 0 _ 1⟩
 have hlow:∀x,x<w.heap.size→¬PutFoot w.heap.size (.slice none 0 0) x:=fun x hx e=>by
  rcases e with e|e
  ·omega
  ·simp[Value.ownBlock]at e
 have H1:=H.keep0 hm1
 have hwt:∀(t:Nat) q,m.waits[t]?=some q→q.length≤8∧∀x∈q,WtNat x:=fun t q hq=>⟨H.om.wlen t q hq,fun x hx=>by
  obtain ⟨a1,a2,a3,a4,a5,a6,a7⟩:=H.om.wval t q hq x hx;have a8:=word_nat a1;have a9:=H.om.cells;obtain ⟨c,g,i,v⟩:=x
  exact ⟨c.toNat,g.toNat,i.toNat,v.toNat,by simp only at *;rw[Int.toNat_of_nonneg a4,Int.toNat_of_nonneg a6,Int.toNat_of_nonneg a2,Int.toNat_of_nonneg a8.1],by simp only at *;omega,by simp only at *;omega,by simp only at *;omega,by simp only at *;omega⟩⟩
 have hcw:∀(i:Nat) c,m.cells[i]?=some c→c.words.length=4∧∀v∈c.words,0≤v∧v<4294967296:=fun i c hc=>⟨(H.om.words i c hc).1,fun v hv=>word_nat ((H.om.words i c hc).2 v hv)⟩
 have hct:∀(i:Nat) c,m.cells[i]?=some c→0≤c.times∧c.times≤1000000000:=fun i c hc=>⟨(H.om.times i c hc).1,Int.le_trans (H.om.times i c hc).2 hN⟩;have hT:=mtold_any H1.p.mem (fun x hx=>hlow x (H.p.mem.lt hx)) P1 H.om.cells (by simp) (by simp) hcw hct H.om.waits hwt
 have hmt:([]++m.cells.flatMap Cell.told++m.waits.flatMap rowTold).length≤700∧∀n∈[]++m.cells.flatMap Cell.told++m.waits.flatMap rowTold,n<128 ^ 9:=by
  obtain ⟨h1,h2⟩:=flat_nums (f:=Cell.told) (m:=6) (l:=m.cells) fun y hy=>by
   obtain ⟨i,hi⟩:=List.mem_iff_getElem?.1 hy;exact cell_nums (hcw i y hi).1 (hcw i y hi).2 (hct i y hi)
  obtain ⟨h3,h4⟩:=flat_nums (f:=rowTold) (m:=33) (l:=m.waits) fun y hy=>by
   obtain ⟨i,hi⟩:=List.mem_iff_getElem?.1 hy;exact row_nums (hwt i y hi).1 (hwt i y hi).2
  have h5:=H.om.cells;have h6:=H.om.waits;rw[List.nil_append];exact ⟨by rw[List.length_append];omega,fun n hn=>(List.mem_append.1 hn).elim (h2 n) (h4 n)⟩
 have hpc:∀(t:Nat) h,m.T[t]?=some h→h.pc≤1000000:=fun t h ht=>by
  have h1:=(H.ot.code t h ht).1;have h2:=(H.ot.code t h ht).2.len;omega
 have hkeep:∀ {wX:World} {u:Value} {l:List Nat},PutUp w1 w.heap.size (.slice none 0 0) wX u l→PMach wX X vs mv m:=fun {wX u l} U=>
  H1.p.keep U.mod (fun x hx=>hlow x (H.p.lt hx)) (fun t h ht=>⟨fun g hg=>hlow g ((H.p.code t h ht).2 g hg).2,hlow _ (H.p.maps t h ht).1.lt⟩)
 have hkey:m.key=([]++m.cells.flatMap Cell.told++m.waits.flatMap rowTold++m.T.flatMap Thr.told).flatMap vint:=rfl;have hor:=H.ot.regs;have q0:=hm1.cell p0 (fun e=>e);have q1:=hm1.cell p1 (fun e=>e);have q5:=Nat.lt_of_lt_of_le p5 hm1.size;have HT:=Lib.hid hT;have Hmt:=Lib.hid hmt;have Hkeep:=@hkeep
 have HK:=Lib.hid (show ∀(wX:World) (u:Value) (l:List Nat),PutUp w1 w.heap.size (.slice none 0 0) wX u l→PMach wX X vs mv m from fun _ _ _ h=>hkeep h);have Hpc:=Lib.hid hpc;have Hor:=Lib.hid hor;have Hm1:=Lib.hid hm1;have Hkey:=Lib.hid hkey
 have hXn:¬PutFoot w.heap.size (.slice none 0 0) X.bX:=hlow _ p5;have HXn:=Lib.hid hXn;clear hT hmt hkeep hpc hor P1 hlow H1 hwt hcw hct hm1 hkey Hkeep H p0 p1 hXn;generalize []++m.cells.flatMap Cell.told++m.waits.flatMap rowTold=mt at *;subst hw1
 go_enter Tryz.func106,Tryz.ntmps106
 go_wp2_with fail
 refine HT.out.mono ?_;rintro e w2 ⟨rfl,v2,U2⟩;have s1:=U2.mod.cell q1 HXn.out;have s5:=Nat.lt_of_lt_of_le q5 U2.mod.size;have HU2:=Lib.hid U2;clear U2 q0 HT
 go_wp2_with fail
 go_loopw [20] (fun i wr=>∃(k:Nat) (u:Value),k≤m.T.length∧i=.int .i64 k∧PutUp (w.alloc (.cells #[.slice none 0 0] 233)) w.heap.size (.slice none 0 0) wr u ((mt++(m.T.take k).flatMap Thr.told).flatMap vint)) (fun i _=>m.T.length - (intOf i).toNat)
 case atStart=>exact ⟨0,v2,Nat.zero_le _,rfl,by simpa using HU2.out⟩
 case round=>
  obtain ⟨k,u,hk,rfl,U⟩:=hrel;obtain ⟨wo,rfl⟩:∃wo:World,wo=wr:=⟨_,rfl⟩;have HU:=Lib.hid U;have r1:=U.mod.cell q1 HXn.out;have r5:=Nat.lt_of_lt_of_le q5 U.mod.size
  have hmore:=flat_nums (f:=Thr.told) (m:=9) (l:=m.T.take k) (fun y hy=>by
   obtain ⟨i,hi⟩:=List.mem_iff_getElem?.1 (List.mem_of_mem_take hy)
   exact thr_nums (Hor.out i y hi) (Hpc.out i y hi))
  have hN1:(mt++(m.T.take k).flatMap Thr.told).length≤760∧Nums (mt++(m.T.take k).flatMap Thr.told):=by
   have:=hmore.1;rw[List.length_take]at this;have:=Hmt.out.1;exact ⟨by rw[List.length_append];omega,nums_app ⟨by omega,Hmt.out.2⟩ ⟨by omega,hmore.2⟩⟩
  have HN1:=Lib.hid hN1;clear U hN1 hmore
  by_cases hlt:k<m.T.length
  ·have hd:decide ((k:Int)<(m.T.length:Int))=true:=by simp;omega
   have hki:(k:Int)<(m.T.length:Int):=by omega
   obtain ⟨h,ht⟩:∃h,m.T[k]?=some h:=⟨_,List.getElem?_eq_getElem hlt⟩;have PM:=HK.out _ _ _ HU.out;obtain ⟨n0,n1,n2,n3,n4,n5,n6,n7,er,⟨b0,b1,b2,b3⟩,b4,b5,b6,b7⟩:=words8 (Hor.out k h ht).1 (fun v hv=>word_nat ((Hor.out k h ht).2 v hv));have hpb:=Hpc.out k h ht;have hlL:=(PM.thr_at ht).2.2
   have c10:wo.cell? ⟨X.bL,k*11+10,none⟩=some (.int .i64 h.pc):=(PM.thr_at ht).1 10 _ rfl;have Hsn:=Lib.hid (flat_snoc (f:=Thr.told) ht);have Htold:=Lib.hid (show h.told=[h.pc,n0,n1,n2,n3,n4,n5,n6,n7] by unfold Thr.told;rw[er];simp);have her:=Lib.hid er;clear PM er
   generalize (m.T.take k).flatMap Thr.told=tk at *
   go_wp2_with fail
   refine (put_num HU.out.rep HN1.out.2 h.pc (by omega)).mono ?_;rintro e w5 ⟨rfl,v5,U5⟩;have V5:=HU.out.trans U5;have PM:=HK.out _ _ _ V5;have t1:=V5.mod.cell q1 HXn.out;have t5:=Nat.lt_of_lt_of_le q5 V5.mod.size;have hl5:=(PM.thr_at ht).2.2
   have d0:w5.cell? ⟨X.bL,k*11+2,none⟩=some (.int .i64 n0):=(PM.reg_at ht (a:=0) (by omega)).trans (by rw[her.out];rfl);have d1:w5.cell? ⟨X.bL,k*11+2+1,none⟩=some (.int .i64 n1):=(PM.reg_at ht (a:=1) (by omega)).trans (by rw[her.out];rfl)
   have d2:w5.cell? ⟨X.bL,k*11+2+2,none⟩=some (.int .i64 n2):=(PM.reg_at ht (a:=2) (by omega)).trans (by rw[her.out];rfl);have d3:w5.cell? ⟨X.bL,k*11+2+3,none⟩=some (.int .i64 n3):=(PM.reg_at ht (a:=3) (by omega)).trans (by rw[her.out];rfl)
   have d4:w5.cell? ⟨X.bL,k*11+2+4,none⟩=some (.int .i64 n4):=(PM.reg_at ht (a:=4) (by omega)).trans (by rw[her.out];rfl);have d5:w5.cell? ⟨X.bL,k*11+2+5,none⟩=some (.int .i64 n5):=(PM.reg_at ht (a:=5) (by omega)).trans (by rw[her.out];rfl)
   have d6:w5.cell? ⟨X.bL,k*11+2+6,none⟩=some (.int .i64 n6):=(PM.reg_at ht (a:=6) (by omega)).trans (by rw[her.out];rfl);have d7:w5.cell? ⟨X.bL,k*11+2+7,none⟩=some (.int .i64 n7):=(PM.reg_at ht (a:=7) (by omega)).trans (by rw[her.out];rfl);have HV5:=Lib.hid V5;clear V5 U5 PM her ht
   go_wp2_with fail
   go_loopw [41] (fun i wr=>∃(r:Nat) (u':Value),r≤8∧i=.int .i64 r∧PutUp (w.alloc (.cells #[.slice none 0 0] 233)) w.heap.size (.slice none 0 0) wr u' ((mt++tk++[h.pc]++[n0,n1,n2,n3,n4,n5,n6,n7].take r).flatMap vint)) (fun i _=>8 - (intOf i).toNat)
   case atStart=>exact ⟨0,v5,by omega,rfl,by simpa using HV5.out⟩
   case round=>
    obtain ⟨r,u',hr,rfl,U7⟩:=hrel;obtain ⟨wi,rfl⟩:∃wi:World,wi=wr:=⟨_,rfl⟩;have HU7:=Lib.hid U7
    have hN7:Nums (mt++tk++[h.pc]++[n0,n1,n2,n3,n4,n5,n6,n7].take r):=by
     have h1:=HN1.out.1;have h4':=(HN1.out.2.more (b:=[h.pc]) (by omega) (by simp) (by intro n hn;simp at hn;omega)).2;refine ⟨by simp only[List.length_append,List.length_take,List.length_cons,List.length_nil]at *;omega,fun n hn=>?_⟩
     rcases List.mem_append.1 hn with h|h
     ·exact h4' n h
     ·have:=List.mem_of_mem_take h;simp at this;omega
    have HN7:=Lib.hid hN7;clear hN7 U7
    by_cases h4:r<8
    ·have hd4:decide ((r:Int)<8)=true:=by simp;omega
     have hr4:r=0∨r=1∨r=2∨r=3∨r=4∨r=5∨r=6∨r=7:=by omega
     have hix0:=idx8_0 (.int .i64 n0) (.int .i64 n1) (.int .i64 n2) (.int .i64 n3) (.int .i64 n4) (.int .i64 n5) (.int .i64 n6) (.int .i64 n7);have hix1:=idx8_1 (.int .i64 n0) (.int .i64 n1) (.int .i64 n2) (.int .i64 n3) (.int .i64 n4) (.int .i64 n5) (.int .i64 n6) (.int .i64 n7)
     have hix2:=idx8_2 (.int .i64 n0) (.int .i64 n1) (.int .i64 n2) (.int .i64 n3) (.int .i64 n4) (.int .i64 n5) (.int .i64 n6) (.int .i64 n7);have hix3:=idx8_3 (.int .i64 n0) (.int .i64 n1) (.int .i64 n2) (.int .i64 n3) (.int .i64 n4) (.int .i64 n5) (.int .i64 n6) (.int .i64 n7)
     have hix4:=idx8_4 (.int .i64 n0) (.int .i64 n1) (.int .i64 n2) (.int .i64 n3) (.int .i64 n4) (.int .i64 n5) (.int .i64 n6) (.int .i64 n7);have hix5:=idx8_5 (.int .i64 n0) (.int .i64 n1) (.int .i64 n2) (.int .i64 n3) (.int .i64 n4) (.int .i64 n5) (.int .i64 n6) (.int .i64 n7)
     have hix6:=idx8_6 (.int .i64 n0) (.int .i64 n1) (.int .i64 n2) (.int .i64 n3) (.int .i64 n4) (.int .i64 n5) (.int .i64 n6) (.int .i64 n7);have hix7:=idx8_7 (.int .i64 n0) (.int .i64 n1) (.int .i64 n2) (.int .i64 n3) (.int .i64 n4) (.int .i64 n5) (.int .i64 n6) (.int .i64 n7)
     rcases hr4 with rfl|rfl|rfl|rfl|rfl|rfl|rfl|rfl
     all_goals
      go_wp2_with fail
      refine (put_num HU7.out.rep HN7.out _ ?_).mono ?_
      ·omega
      rintro e w8 ⟨rfl,v8,U8⟩;have HV8:=Lib.hid (HU7.out.trans U8);clear U8;go_wp2
      go_roundw
      case rel=>first|exact ⟨1,v8,by omega,by go_num,HV8.out.cast (by simp)⟩|exact ⟨2,v8,by omega,by go_num,HV8.out.cast (by simp)⟩|exact ⟨3,v8,by omega,by go_num,HV8.out.cast (by simp)⟩|exact ⟨4,v8,by omega,by go_num,HV8.out.cast (by simp)⟩|exact ⟨5,v8,by omega,by go_num,HV8.out.cast (by simp)⟩|exact ⟨6,v8,by omega,by go_num,HV8.out.cast (by simp)⟩|exact ⟨7,v8,by omega,by go_num,HV8.out.cast (by simp)⟩|exact ⟨8,v8,by omega,by go_num,HV8.out.cast (by simp)⟩
      case measure=>simp[intOf]
    ·have hd4:decide ((r:Int)<8)=false:=by simp;omega
     obtain rfl:r=8:=by omega
     go_wp2
     go_roundw
     case rel=>exact ⟨k+1,u',by omega,by go_num,HU7.out.cast (by rw[Hsn.out,Htold.out];simp)⟩
     case measure=>simp[intOf];omega
  ·have hd:decide ((k:Int)<(m.T.length:Int))=false:=by simp;omega
   obtain rfl:k=m.T.length:=by omega
   rw[List.take_length]at HU HN1;have hcv:=conv_put HU.out.rep (vint_bytes HN1.out.2.2);rw[←Hkey.out]at hcv;have hcb:=cell_of_heap HU.out.rep.cell 0;have hcb':wo.cell? ⟨w.heap.size,0,none⟩=some u:=hcb.trans rfl;have hlb:=lt_of_block HU.out.rep.cell
   have hend:Mod noF w wo:=(Hm1.out.any (F:=PutFoot w.heap.size (.slice none 0 0))).trans HU.out.mod (fun _ _ e=>e) |>.mono fun x hx e=>by
    rcases e with e|e
    ·omega
    ·simp[Value.ownBlock]at e
   have Hend:=Lib.hid hend;clear hcb hend;go_wp2;go_ret;exact ⟨rfl,Hend.out⟩
end
section
open Go.RowKit Qs Qh
variable {w w1 w2 w':World}{b:Nat}{ks:List (List Nat)}
def Bytes(k:List Nat):Prop:=k.length≤1000000∧∀x∈k,x<256
theorem bytesOf_inj:∀ {k l:List Nat},(∀x∈k,x<256)→(∀x∈l,x<256)→bytesOf k=bytesOf l→k=l:=fun {k l} hk hl h=>by
 unfold bytesOf at h;simp only[ByteArray.mk.injEq]at h;replace h:=congrArg Array.toList h;simp only at h
 induction k generalizing l with
 |nil=>cases l with
  |nil=>rfl
  |cons y l=>simp at h
 |cons x k ih=>cases l with
  |nil=>simp at h
  |cons y l=>
   simp only[List.map_cons,List.cons.injEq]at h;have h1:=congrArg UInt8.toNat h.1;have hx:=hk x (by simp);have hy:=hl y (by simp);simp at h1;rw[ih (fun z hz=>hk z (by simp[hz])) (fun z hz=>hl z (by simp[hz])) h.2];rw[show x=y by omega]
def SeenAt(w:World)(b:Nat)(ks:List (List Nat)):Prop:=
 ∃(n:Nat) (D:DataW HN),n≤ks.length∧w.ownsMap Tryz.prog 9 (plainElem Tryz.prog 4) b n D∧Go.Maps.IsMap D∧(∀k∈ks,Bytes k)∧
  ∀k,Bytes k→D.atKey (keyB (bytesOf k)) (.lit (.bool false))=.lit (.bool (ks.contains k))
theorem zeroBool(w:World):(zeroValue 4).run Tryz.prog w=.ok (.bool false) w:=by kernel_rfl
theorem plainB_inv{v:Value}{d:DataW HN}{ps:List MemPlace}(h:plainElem (H:=HN) Tryz.prog 4 v=some (d,ps)):∃x,v=.bool x∧d=.lit (.bool x):=by
 unfold plainElem at h;rw[show Tryz.prog.underlying 4 = some .bool from Tryz.underlying4]at h
 cases v with
 |bool x=>
  simp at h;exact ⟨x,rfl,h.1.symm⟩
 |_=>simp at h
theorem size_bytesOf(k:List Nat):(bytesOf k).size=k.length:=by simp[bytesOf,ByteArray.size]
theorem SeenAt.keep{F:Nat→Prop}(h:SeenAt w b ks)(hM:Mod F w w')(hF:¬F b):SeenAt w' b ks:=by
 obtain ⟨n,D,h0,h1,h2⟩:=h;exact ⟨n,D,h0,rmap_heap h1 (hM.block b h1.lt hF),h2⟩
theorem SeenAt.noCells(h:SeenAt w b ks){c:Array Value}{T:TypeId}:w.heap[b]?≠some (.cells c T (0,0)):=fun e=>by
 obtain ⟨n,D,h0,⟨es,clock,h1,_⟩,-⟩:=h;rw[h1]at e;cases e
theorem SeenAt.made(w:World):SeenAt (w.alloc (.map #[] 0)) w.heap.size []:=by
 refine ⟨0,.map [],Nat.le_refl _,World.ownsMap_made w _ _ _,(World.ownsMap_made w Tryz.prog 9 (plainElem (H:=HN) Tryz.prog 4)).isMap,fun k hk=>(List.not_mem_nil hk).elim,fun k hk=>rfl⟩
theorem SeenAt.look(h:SeenAt w b ks){k:List Nat}(hk:Bytes k):(Instr.lookup 190 (.map (some b)) (.string (bytesOf k)) false).run Tryz.prog w=.ok (.bool (ks.contains k)) w:=by
 obtain ⟨n,D,h0,h1,h2,h3,h4⟩:=h;have K:=Go.Maps.string_keyed (P:=Tryz.prog) Tryz.underlying9;have hkey:=keyOfS (s:=bytesOf k) (by rw[size_bytesOf];have:=hk.1;unfold maxLen;omega)
 obtain ⟨v,ps,hrun,hv⟩:=h1.lookup (t:=190) (e:=4) K Tryz.underlying190 (zeroBool w) (plainElem_bool Tryz.underlying4 false) hkey
 have hv':plainElem (H:=HN) Tryz.prog 4 v=some (.lit (.bool (ks.contains k)),ps):=by
  rw[hv];show some (D.atKey (keyB (bytesOf k)) (.lit (.bool false)),ps)=_;rw[h4 k hk]
 obtain ⟨x,rfl,e⟩:=plainB_inv hv';simp only[DataW.lit.injEq,Lit.bool.injEq]at e;rw[hrun,←e]
theorem SeenAt.put(h:SeenAt w b ks){k:List Nat}(hk:Bytes k)(hl:ks.length≤100000):∃w',(Instr.mapUpdate 190 (.map (some b)) (.string (bytesOf k)) (.bool true)).run Tryz.prog w=.ok () w'∧SeenAt w' b (ks++[k])∧Mod (fun x=>x=b) w w':=by
 obtain ⟨n,D,h0,h1,h2,h3,h4⟩:=h;have K:=Go.Maps.string_keyed (P:=Tryz.prog) Tryz.underlying9;have hkey:=keyOfS (s:=bytesOf k) (by rw[size_bytesOf];have:=hk.1;unfold maxLen;omega)
 obtain ⟨w',hrun,hown,hgr⟩:=h1.update (t:=190) (e:=4) K Tryz.underlying190 (by unfold maxLen;omega) hkey (plainElem_bool Tryz.underlying4 true)
 refine ⟨w',hrun,⟨n+1,_,by rw[List.length_append];simp;omega,hown,hown.isMap,fun y hy=>?_,fun y hy=>?_⟩,(Mod.refl (fun x=>x=b) w).grown hgr fun j hj _=>by cases hj;rfl⟩
 ·rcases List.mem_append.1 hy with e|e
  ·exact h3 y e
  ·simp at e;subst e;exact hk
 ·by_cases e:y=k
  ·subst e;rw[show (Lit.string (bytesOf y).data.toList)=keyB (bytesOf y)from rfl,Maps.atKey_put_same h2 (by trivial)];simp
  ·have hne:keyB (bytesOf y)≠keyB (bytesOf k):=fun g=>e (bytesOf_inj hy.2 hk.2 (keyB_inj g));rw[show (Lit.string (bytesOf k).data.toList)=keyB (bytesOf k)from rfl,Maps.atKey_put_other hne,h4 y hy,show (ks++[k]).contains y=ks.contains y by simp[e]]
end
section
open Go.RowKit Qs Qh
variable {w w1 w2 w':World}{X:XB}{vs:List Value}{mv:Value}{m:M}{N:Int}
theorem pthreads_any(H:PX w X vs mv m N):Calls Tryz.prog 109 #[.pointer (some ⟨X.bX,0,none⟩)] w fun e w'=>e=.returned (.int .i64 m.T.length)∧w=w':=by
 obtain ⟨p0,p1,-,-,-,p5⟩:=H.p.top_at;clear H
 go_enter Tryz.func109,Tryz.ntmps109
 go_wp2;go_ret;exact ⟨rfl,rfl⟩
theorem rest_of{k:Nat}(h:k<m.T.length)(hb:(m.done k&&(m.waitsOf k).isEmpty)=false):m.rest=false:=by
 unfold M.rest;rw[List.all_eq_false];exact ⟨k,List.mem_range.2 h,by simp[hb]⟩
theorem prest_any(H:PX w X vs mv m N):Calls Tryz.prog 108 #[.pointer (some ⟨X.bX,0,none⟩)] w fun e w'=>e=.returned (.bool m.rest)∧Mod noF w w':=by
 obtain ⟨p0,p1,-,-,-,p5⟩:=H.p.top_at;have ht6:=H.t6;have htl:=H.ot.len;have HH:=Lib.hid H;clear H
 go_enter Tryz.func108,Tryz.ntmps108
 go_wp2_with fail
 go_loopw [9] (fun i wr=>∃k:Nat,k≤m.T.length∧i=.int .i64 k∧(∀j,j<k→(m.done j&&(m.waitsOf j).isEmpty)=true)∧Mod noF w wr) (fun i _=>m.T.length - (intOf i).toNat)
 case atStart=>exact ⟨0,Nat.zero_le _,rfl,fun j hj=>by omega,Mod.refl _ _⟩
 case round=>
  obtain ⟨k,hk,rfl,hall,hm⟩:=hrel;obtain ⟨wo,rfl⟩:∃wo:World,wo=wr:=⟨_,rfl⟩;have Hm:=Lib.hid hm;have Hall:=Lib.hid hall
  by_cases hlt:k<m.T.length
  ·have hd:decide ((k:Int)<(m.T.length:Int))=true:=by simp;omega
   have hki:(k:Int)<(m.T.length:Int):=by omega
   obtain ⟨q,hq⟩:∃q,m.waits[k]?=some q:=⟨_,List.getElem?_eq_getElem (by omega)⟩
   have hwq:m.waitsOf k=q:=by simp[M.waitsOf,List.getD,hq]
   have Hq:=Lib.hid hq;have Hwq:=Lib.hid hwq;clear hall hm hq hwq
   go_wp2_with fail
   refine (pdone_any (HH.out.keep0 Hm.out) k hlt).mono ?_;rintro e w5 ⟨rfl,hm5⟩;have Hm5:=Lib.hid (Hm.out.trans0 hm5);have u0:=Hm5.out.cell p0 (fun e=>e);have u5:=Nat.lt_of_lt_of_le p5 Hm5.out.size;clear hm5
   cases hdn:m.done k with
   |false=>
    have Hf:=Lib.hid (rest_of hlt (by rw[hdn];rfl));clear hdn;go_wp2;go_ret;rw[Hf.out];exact ⟨rfl,Hm5.out⟩
   |true=>
    have Hdn:=Lib.hid hdn;clear hdn
    go_wp2_with fail
    refine (pwaiting_ok (HH.out.keep0 Hm5.out).p.mem Hq.out (by omega)).mono ?_;rintro e w6 ⟨rfl,rfl⟩
    by_cases h0:q=[]
    ·have Hgood:=Lib.hid (show (m.done k&&(m.waitsOf k).isEmpty)=true by rw[Hdn.out,Hwq.out,h0];rfl)
     have hl0:q.length=0:=by rw[h0];rfl
     rw[hl0];clear h0 hl0;go_wp2
     go_roundw
     case rel=>exact ⟨k+1,by omega,by go_num,fun j hj=>by
      by_cases e:j=k
      ·rw[e];exact Hgood.out
      ·exact Hall.out j (by omega),Hm5.out⟩
     case measure=>simp[intOf];omega
    ·have hl0:0<q.length:=List.length_pos_iff.2 h0
     have hd0:decide ((0:Int)<(q.length:Int))=true:=by simp;omega
     have Hf:=Lib.hid (rest_of hlt (by rw[Hwq.out];simp[h0]));clear h0;go_wp2;go_ret;rw[Hf.out];exact ⟨rfl,Hm5.out⟩
  ·have hd:decide ((k:Int)<(m.T.length:Int))=false:=by simp;omega
   obtain rfl:k=m.T.length:=by omega
   have Hr:=Lib.hid (show m.rest=true by unfold M.rest;rw[List.all_eq_true];intro j hj;exact hall j (List.mem_range.1 hj));clear hall hm;go_wp2;go_ret;rw[Hr.out];exact ⟨rfl,Hm.out⟩
end
section
open Go.RowKit Qs Qh
variable {w w1 w2 w':World}
def revAt(l:List Int)(k p:Nat):Int:=if p<k∨l.length - k≤p then l.getD (l.length - 1 - p) 0 else l.getD p 0
theorem revAt_zero(l:List Int){p:Nat}(hp:p<l.length):revAt l 0 p=l.getD p 0:=by
 unfold revAt;rw[if_neg (by omega)]
theorem revAt_end(l:List Int){k p:Nat}(hp:p<l.length)(hk:l.length - 1 - k≤k):revAt l k p=l.getD (l.length - 1 - p) 0:=by
 unfold revAt
 split
 ·rfl
 ·rename_i h
  have:p=l.length - 1 - p:=by omega
  rw[←this]
theorem revAt_succ(l:List Int){k q p:Nat}(hq:k+q=l.length - 1)(hkq:k<q)(hp:p<l.length):revAt l (k+1) p=if p=k then l.getD q 0 else if p=q then l.getD k 0 else revAt l k p:=by
 unfold revAt
 by_cases h1:p=k
 ·rw[if_pos (by omega),if_pos h1,show l.length - 1 - p=q by omega]
 ·rw[if_neg h1]
  by_cases h2:p=q
  ·rw[if_pos (by omega),if_pos h2,show l.length - 1 - p=k by omega]
  ·rw[if_neg h2]
   by_cases h3:p<k∨l.length - k≤p
   ·rw[if_pos h3,if_pos (by omega)]
   ·rw[if_neg h3,if_neg (by omega)]
def RevRel(w0:World)(l:List Int)(g:Nat)(k:Nat)(wr:World):Prop:=
 ∃cur,wr.heap[g]?=some (.cells cur 3 (0,0))∧(∀p,p<l.length→cur[p]?=some (.int .i64 (revAt l k p)))∧(∃cur0,w0.heap[g]?=some (.cells cur0 3 (0,0))∧cur.size=cur0.size)∧Mod (fun x=>x=g) w0 wr
theorem RevRel.drew{w0 wr:World}{l:List Int}{g k:Nat}(h:RevRel w0 l g k wr):RevRel w0 l g k wr.drew:=by
 obtain ⟨cur,c1,c2,c3,c5⟩:=h;exact ⟨cur,c1,c2,c3,c5.drew⟩
theorem rev_any{v:Value}{l:List Int}(h:w.ownsRow 0 3 1 v l.length (l.map (Value.int .i64)))(hl:l.length≤1000000) :
  Calls Tryz.prog 131 #[v] w fun e w'=>e=.returned (.tuple #[])∧w'.ownsRow 0 3 1 v l.length (l.reverse.map (Value.int .i64))∧Mod (fun x=>v.ownBlock=some x) w w':=by
 rcases h.2 with ⟨rfl,h0⟩|⟨g,cap,cur,rfl,hb,hg,h1,h2,h3,h4⟩
 ·obtain rfl:l=[]:=List.eq_nil_of_length_eq_zero h0
  go_enter Tryz.func131,Tryz.ntmps131
  go_wp2_with fail
  refine wp_loop_rounds 1 ?_;rw[rounds_succ];go_wp2
  go_end0
  exact ⟨rfl,h,Mod.refl _ _⟩
 ·have hcell:∀p,p<l.length→cur[p]?=some (.int .i64 (l.getD p 0)):=fun p hp=>by
   have e:cur[p]?=(cur.toList.take (l.length*1))[p]?:=by
    rw[List.getElem?_take,if_pos (by omega)];simp
   rw[e,h4,List.getElem?_map,List.getElem?_eq_getElem hp];simp[List.getD,hp]
  have hstart:RevRel w l g 0 w:=⟨cur,hg,fun p hp=>by rw[revAt_zero l hp];exact hcell p hp,⟨cur,hg,rfl⟩,Mod.refl _ _⟩;have HS:=Lib.hid hstart;have H3:=Lib.hid h3;have Hg:=Lib.hid hg;clear hcell hstart h4 h h3 hg
  go_enter Tryz.func131,Tryz.ntmps131
  go_wp2_with fail
  go_loopw [2,3] (fun iv jv wr=>∃k:Nat,iv=.int .i64 k∧jv=.int .i64 ((l.length:Int) - 1 - k)∧2*k≤l.length∧RevRel w l g k wr) (fun iv _ _=>l.length - (intOf iv).toNat)
  case atStart=>exact ⟨0,rfl,by simp,by omega,HS.out⟩
  case round=>
   obtain ⟨k,rfl,rfl,hk2,R⟩:=hrel;obtain ⟨wo,rfl⟩:∃wo:World,wo=wr:=⟨_,rfl⟩
   by_cases hlt:(k:Int)<(l.length:Int) - 1 - k
   ·obtain ⟨q,hq⟩:∃q:Nat,k+q=l.length - 1:=⟨l.length - 1 - k,by omega⟩
    have eq1:(l.length:Int) - 1 - (k:Int)=(q:Int):=by omega
    rw[eq1]at hlt ⊢
    have hd:decide ((k:Int)<(q:Int))=true:=by simpa using hlt
    obtain ⟨cur1,c1,c2,⟨cur0,c3,c4⟩,c5⟩:=R;have a1:wo.cell? ⟨g,k,none⟩=some (.int .i64 (revAt l k k)):=(cell_of_heap c1 k).trans (c2 k (by omega));have a2:wo.cell? ⟨g,q,none⟩=some (.int .i64 (revAt l k q)):=(cell_of_heap c1 q).trans (c2 q (by omega));have f1:=free_of_heap c1 k
    have f2:=free_of_heap c1 q;have hgl:=lt_of_block c1
    have hki:(k:Int)<(l.length:Int):=by omega
    have hqi:(q:Int)<(l.length:Int):=by omega
    have hne:k≠q:=by omega
    have HC:=Lib.hid (And.intro c1 (And.intro c2 (And.intro c3 (And.intro c4 c5))));clear c1 c2 c3 c4 c5
    go_wp2_with fail
    go_region
    all_goals
     have eq2:(q:Int) - 1=(l.length:Int) - 1 - ((k+1:Nat):Int):=by omega
     have r1:revAt l k q=l.getD q 0:=by unfold revAt;rw[if_neg (by omega)]
     have r2:revAt l k k=l.getD k 0:=by unfold revAt;rw[if_neg (by omega)]
     obtain ⟨c1,c2,c3,c4,c5⟩:=HC.out
     have hR:RevRel w l g (k+1) ((wo.setCell ⟨g,k,none⟩ (.int .i64 (revAt l k q))).setCell ⟨g,q,none⟩ (.int .i64 (revAt l k k))):=by
      refine ⟨(cur1.setIfInBounds k (.int .i64 (revAt l k q))).setIfInBounds q (.int .i64 (revAt l k k)),Qh.heap_setCell_same (Qh.heap_setCell_same c1 k _) q _,fun p hp=>?_,⟨cur0,c3,by simpa using c4⟩,(c5.trans ((Mod.refl (fun x=>x=g) wo).setCell (fun _=>rfl) _) (fun _ _ e=>e)).trans ((Mod.refl (fun x=>x=g) _).setCell (fun _=>rfl) _) (fun _ _ e=>e)⟩
      have hsz:∀p,p<l.length→p<cur1.size:=fun p hp=>by
       have:=c2 p hp
       rcases Nat.lt_or_ge p cur1.size with h|h
       ·exact h
       ·rw[Array.getElem?_eq_none h]at this;cases this
      have hk1:=hsz k (by omega);have hq1:=hsz q (by omega);rw[revAt_succ l hq (by omega) hp,Array.getElem?_setIfInBounds,Array.getElem?_setIfInBounds,c2 p hp,r1,r2];simp only[Array.size_setIfInBounds]
      by_cases e1:p=k
      ·subst e1;rw[if_neg (by omega),if_pos rfl,if_pos hk1,if_pos rfl]
      ·rw[if_neg e1]
       by_cases e2:p=q
       ·subst e2;rw[if_pos rfl,if_pos hq1,if_pos rfl]
       ·rw[if_neg (fun e=>e2 e.symm),if_neg (fun e=>e1 e.symm),if_neg e2]
     have HR:=Lib.hid hR;have Heq:=Lib.hid eq2;clear hR c1 c2 c3 c4 c5 r1 r2 eq2;go_wp2
     go_roundw
     case rel=>exact ⟨k+1,by go_num,by rw[Heq.out],by omega,HR.out.drew⟩
     case measure=>simp[intOf];omega
   ·have hd:decide ((k:Int)<(l.length:Int) - 1 - k)=false:=by simpa using hlt
    obtain ⟨cur1,c1,c2,⟨cur0,c3,c4⟩,c5⟩:=R
    have e0:cur0=cur:=by
     have:=c3.symm.trans Hg.out;simp at this;exact this
    have hown:wo.ownsRow 0 3 1 (.slice (some ⟨g,0,none⟩) l.length cap) l.length (l.reverse.map (Value.int .i64)):=by
     refine ⟨by simp,.inr ⟨g,cap,cur1,rfl,Nat.zero_le _,c1,h1,h2,by rw[c4,e0];exact H3.out,?_⟩⟩;refine List.ext_getElem? fun p=>?_;rw[List.getElem?_take]
     by_cases hp:p<l.length
     ·rw[if_pos (by omega),Array.getElem?_toList,c2 p hp,revAt_end l hp (by omega),List.getElem?_map,List.getElem?_reverse hp]
      have hp2:l.length - 1 - p<l.length:=by omega
      simp[List.getD,hp2]
     ·rw[if_neg (by omega),List.getElem?_eq_none (by simp;omega)]
    have Hown:=Lib.hid hown;have Hm:=Lib.hid (c5.mono (G:=fun x=>(Value.slice (some ⟨g,0,none⟩) l.length cap).ownBlock=some x) fun x _ e=>by rw[e];rfl);clear hown c1 c2 c3 c4 c5;go_wp2
    go_end0
    exact ⟨rfl,by first|exact Hown.out|(rw[←List.map_reverse];exact Hown.out),Hm.out⟩
end
section
open Go.RowKit Qs Qh
def ScriptIn(w:World)(v:Value)(l:List Int):Prop:=
 (v=.slice none 0 0∧l=[])∨∃a c,v=.slice (some a) l.length c∧IntsAt w v l
theorem ScriptIn.ints{w:World}{v:Value}{l:List Int}(h:ScriptIn w v l):IntsAt w v l:=by
 rcases h with ⟨rfl,rfl⟩|⟨a,c,-,h⟩
 ·exact ⟨none,0,rfl,by simp,fun i x h=>by simp at h⟩
 ·exact h
theorem ScriptIn.keep{w w':World}{v:Value}{l:List Int}(h:ScriptIn w v l)(hM:Mod noF w w'):ScriptIn w' v l:=by
 rcases h with h|⟨a,c,e,h⟩
 ·exact .inl h
 ·exact .inr ⟨a,c,e,h.frame0 hM⟩
theorem scrInfo:(Tryz.prog.info? 3).map (fun i=>(i.zero,i.size,i.bytes))=some (some (.int .i64 0),1,8):=by kernel_rfl
theorem scr_ints{w:World}{v:Value}{l:List Int}(h:w.ownsRow 0 3 1 v l.length (l.map (Value.int .i64))):IntsAt w v l∧∃a n c,v=.slice a n c∧n≤c:=by
 rcases h.2 with ⟨rfl,h0⟩|⟨g,cap,cur,rfl,_,hg,h1,h2,h3,h4⟩
 ·exact ⟨⟨none,0,by rw[h0],by omega,fun i y hi=>by have:=(List.getElem?_eq_some_iff.1 hi).1;omega⟩,_,_,_,rfl,Nat.le_refl _⟩
 ·refine ⟨⟨_,cap,rfl,Nat.le_trans h1 h2,fun i y hi=>⟨g,0,rfl,lt_of_block hg,?_⟩⟩,_,_,_,rfl,h1⟩;have hlt:=(List.getElem?_eq_some_iff.1 hi).1;rw[cell_of_heap hg,Nat.zero_add]
  have e:cur[i]?=(cur.toList.take (l.length*1))[i]?:=by
   rw[List.getElem?_take,if_pos (by omega)];simp
  rw[e,h4,List.getElem?_map,hi];rfl
structure ScrAt(w w':World)(v:Value)(l:List Int):Prop where
 ints:IntsAt w' v l
 le:∀a n c,v=.slice a n c→n≤c
 mod:Mod noF w w'
 own:∀g,v.ownBlock=some g→w.heap.size≤g
theorem wpList_append_script{w:World}{ops:Array Oper}{rest:List Oper}{o:Oper}{a:Act}{Q:Exit→Act→World→Prop}(hgd:o.guard=none)(s x:Operand)
  (ho:o.op=.call {callee:=.builtin .append,args:=#[s,x],argTypes:=#[26,26]})
  (hs:a.eval s=.slice none 0 0) (sw:Value) (l:List Int) (hx:a.eval x=sw) (H:ScriptIn w sw l) (hl:l.length≤1000000)
  (h:∀v' w',ScrAt w w' v' l→wpList Tryz.prog ops Q rest (a.put o.dst v') w'):wpList Tryz.prog ops Q (o :: rest) a w:=by
 obtain ⟨i0,hti,hz0,hz1,hz2⟩:=info_parts scrInfo
 rcases H with ⟨rfl,rfl⟩|⟨ad,c,rfl,hI⟩
 ·refine wpList_plain hgd fun _ hK=>?_;have hrun:=run_append_owned_none (P:=Tryz.prog) (w:=w) 0 26 o.type 3 i0 1 Tryz.underlying26 hti (.slice none 0 0) 0 [] (World.ownsRow_nil w 0 3 1)
  have hk:=hK _ _ (h (.slice none 0 0) w ⟨⟨none,0,rfl,by simp,fun i x h=>by simp at h⟩,fun _ _ _ e=>by cases e;exact Nat.le_refl _,Mod.refl _ _,fun g hg=>by simp[Value.ownBlock]at hg⟩);unfold Oper.wp;simp[execOp,ho,resolve,invoke,builtin,hs,hx,hrun,Result.andThen];exact hk
 ·obtain ⟨_,_,e,hmx,hc⟩:=hI.at_;cases e
  have hcells:∀j u,(l.map (Value.int .i64))[j]?=some u→w.cell? (ad.add j)=some u:=fun j u hu=>by
   rw[List.getElem?_map]at hu;obtain ⟨y,hy,rfl⟩:=Option.map_eq_some_iff.1 hu;obtain ⟨b,off,e,-,hcell⟩:=hc j y hy;cases e
   have hadd:(⟨b,off,none⟩:Addr).add j=⟨b,off+j,none⟩:=by unfold Addr.add;split <;> simp_all
   rw[hadd];exact hcell
  refine wpList_append_mine w hgd s x 26 ho 3 i0 (.int .i64 0) 1 8 Tryz.underlying26 hti hz0 hz1 hz2 rfl (by decide) (.slice none 0 0) 0 [] hs (World.ownsRow_nil w 0 3 1) ad l.length c (l.map (Value.int .i64)) hx (by rw[List.length_map,Nat.mul_one]) hcells (Qh.ints_one l) (by unfold maxLen;omega) (by omega) ?_
  intro v' w' hown hgr hfr _;rw[Nat.zero_add,List.nil_append]at hown;obtain ⟨h1,h2⟩:=scr_ints hown;refine h v' w' ⟨h1,fun a n c e=>?_,(Mod.refl noF w).grown hgr (fun k hk _=>by simp[Value.ownBlock]at hk),fun g hg=>(hfr g hg).elim (fun e=>by simp[Value.ownBlock]at e) id⟩;obtain ⟨a',n',c',e',hle⟩:=h2
  rw[e']at e;cases e;exact hle
end
end Go.Proofs.YtciaficoeajeaaaGreatDoor
