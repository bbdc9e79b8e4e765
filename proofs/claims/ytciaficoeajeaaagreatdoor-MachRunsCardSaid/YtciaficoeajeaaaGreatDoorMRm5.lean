/- Texts that belong together, joined. -/
import Derived.Test.YtciaficoeajeaaaGreatDoorMRAs
import Derived.LoopTactic
import Derived.Outline
import Derived.Test.YtciaficoeajeaaaGreatDoorMRm2
import Derived.Test.YtciaficoeajeaaaGreatDoorMRm3
import Derived.Deep.QuietTactic
import Derived.BigQuiet
import Derived.BigRegion
import Derived.Test.YtciaficoeajeaaaGreatDoorMRCodeFine
set_option linter.unusedVariables false
set_option linter.unusedSimpArgs false
set_option linter.unusedSectionVars false
set_option maxHeartbeats 4000000
namespace Go.Proofs.YtciaficoeajeaaaGreatDoor
section
open Go.RowKit Go.Extern.Stop Go.Stop Go.Extern Qh
def errG:Nat→Nat
 |0=>6
 |1=>0
 |2=>7
 |3=>3
 |4=>4
 |5=>8
 |6=>2
 |7=>9
 |8=>1
 |_=>0
structure ErrsAt(W:World)(a:Nat→Addr):Prop where
 var:∀i,i<9→W.cell? ⟨errG i,0,none⟩=some (.iface 241 (.pointer (some (a i))))
 obj:∀i,i<9→∃c t,W.heap[(a i).block]?=some (.cells c t (0,0))
 inj:∀i j,i<9→j<9→i≠j→a i≠a j
 et:W.cell? ⟨5,0,none⟩=some (.iface 206 (.agg #[.pointer (some ⟨10,31,none⟩)]))
theorem ErrsAt.v0{W:World}{a:Nat→Addr}(h:ErrsAt W a):W.cell? ⟨6,0,none⟩=some (.iface 241 (.pointer (some (a 0)))):=h.var 0 (by omega)
theorem ErrsAt.v1{W:World}{a:Nat→Addr}(h:ErrsAt W a):W.cell? ⟨0,0,none⟩=some (.iface 241 (.pointer (some (a 1)))):=h.var 1 (by omega)
theorem ErrsAt.v2{W:World}{a:Nat→Addr}(h:ErrsAt W a):W.cell? ⟨7,0,none⟩=some (.iface 241 (.pointer (some (a 2)))):=h.var 2 (by omega)
theorem ErrsAt.v3{W:World}{a:Nat→Addr}(h:ErrsAt W a):W.cell? ⟨3,0,none⟩=some (.iface 241 (.pointer (some (a 3)))):=h.var 3 (by omega)
theorem ErrsAt.v4{W:World}{a:Nat→Addr}(h:ErrsAt W a):W.cell? ⟨4,0,none⟩=some (.iface 241 (.pointer (some (a 4)))):=h.var 4 (by omega)
theorem ErrsAt.v5{W:World}{a:Nat→Addr}(h:ErrsAt W a):W.cell? ⟨8,0,none⟩=some (.iface 241 (.pointer (some (a 5)))):=h.var 5 (by omega)
theorem ErrsAt.v6{W:World}{a:Nat→Addr}(h:ErrsAt W a):W.cell? ⟨2,0,none⟩=some (.iface 241 (.pointer (some (a 6)))):=h.var 6 (by omega)
theorem ErrsAt.v7{W:World}{a:Nat→Addr}(h:ErrsAt W a):W.cell? ⟨9,0,none⟩=some (.iface 241 (.pointer (some (a 7)))):=h.var 7 (by omega)
theorem ErrsAt.v8{W:World}{a:Nat→Addr}(h:ErrsAt W a):W.cell? ⟨1,0,none⟩=some (.iface 241 (.pointer (some (a 8)))):=h.var 8 (by omega)
theorem ErrsAt.keep{W W':World}{a:Nat→Addr}(h:ErrsAt W a)(hM:Mod noF W W'):ErrsAt W' a:=
 ⟨fun i hi=>hM.cell (h.var i hi) (fun e=>e),fun i hi=>by obtain ⟨c,t,e⟩:=h.obj i hi;exact ⟨c,t,hM.heap e (fun e=>e)⟩,h.inj,hM.cell h.et (fun e=>e)⟩
def errV(a:Nat→Addr)(i:Nat):Value:=.iface 241 (.pointer (some (a i)))
theorem is_at{W:World}{a:Nat→Addr}(h:ErrsAt W a){i k:Nat}(hi:i<9)(hk:k<9) :
  Calls Tryz.prog 58 #[errV a i,errV a k] W fun e w'=>e=.returned (.bool (decide (i=k)))∧w'=W:=by
 by_cases e:i=k
 ·subst e;exact (is_same (a i) W).mono fun _ _ h=>⟨by rw[h.1];simp,h.2⟩
 ·obtain ⟨c,t,e1⟩:=h.obj i hi;obtain ⟨c2,t2,e2⟩:=h.obj k hk;exact (is_other (a i) (a k) c c2 t t2 W (h.inj i k hi hk e) e1 e2).mono fun _ _ h=>⟨by rw[h.1];simp[e],h.2⟩
theorem code_nil(w:World):Calls Tryz.prog 45 #[.nilIface] w fun e w'=>e=.returned (.tuple #[.int .i64 0,.int .i64 (-1)])∧w'=w:=by
 go_enter Tryz.func45,Tryz.ntmps45
 go_wp2;go_ret2;exact ⟨rfl,rfl⟩
theorem code_at{w:World}{a:Nat→Addr}(E:ErrsAt w a)(i:Nat)(hi:i<9) :
  Calls Tryz.prog 45 #[errV a i] w fun e w'=>e=.returned (.tuple #[.int .i64 ((i:Int)+1),.int .i64 (-1)])∧Mod noF w w':=by
 have HE:=Lib.hid E;clear E
 go_enter Tryz.func45,Tryz.ntmps45
 unfold errV
 go_wp2_with fail
 refine (as_miss (a i) ⟨w.heap.size,0,none⟩ _ ((HE.out.keep ((Mod.refl noF w).alloc _)).et)).mono ?_;rintro e w2 ⟨rfl,hm2⟩;have hm:=((Mod.refl noF w).alloc (.cells #[.pointer none] 89)).trans0 hm2;have E2:=HE.out.keep hm;have v0:=E2.v0;have v1:=E2.v1;have v2:=E2.v2;have v3:=E2.v3
 have v4:=E2.v4;have v5:=E2.v5;have v6:=E2.v6;have v7:=E2.v7;have v8:=E2.v8;have Hm:=Lib.hid hm;have HE2:=Lib.hid E2;clear hm2 hm E2;go_wp2
 obtain ⟨wx,hwx⟩:∃wx,w2.alloc (.cells #[.iface 241 (.pointer (some (a 0))),.iface 241 (.pointer (some (a 1))),.iface 241 (.pointer (some (a 2))),.iface 241 (.pointer (some (a 3))),.iface 241 (.pointer (some (a 4))),.iface 241 (.pointer (some (a 5))),.iface 241 (.pointer (some (a 6))),.iface 241 (.pointer (some (a 7))),.iface 241 (.pointer (some (a 8)))] 31)=wx:=⟨_,rfl⟩
 rw[hwx];have hq:Mod noF w2 wx:=hwx ▸ (Mod.refl noF w2).alloc _;have E3:=HE2.out.keep hq
 have hnew:=hwx ▸ heap_alloc_new w2 (.cells #[.iface 241 (.pointer (some (a 0))),.iface 241 (.pointer (some (a 1))),.iface 241 (.pointer (some (a 2))),.iface 241 (.pointer (some (a 3))),.iface 241 (.pointer (some (a 4))),.iface 241 (.pointer (some (a 5))),.iface 241 (.pointer (some (a 6))),.iface 241 (.pointer (some (a 7))),.iface 241 (.pointer (some (a 8)))] 31)
 have hcell:∀k:Nat,k<9→wx.cell? ⟨w2.heap.size,0+k,none⟩=some (errV a k):=fun k hk=>by
  rw[cell_of_heap hnew]
  rcases (by omega:k=0∨k=1∨k=2∨k=3∨k=4∨k=5∨k=6∨k=7∨k=8)with rfl|rfl|rfl|rfl|rfl|rfl|rfl|rfl|rfl <;> rfl
 have hfin:=Hm.out.trans0 hq;have HE3:=Lib.hid E3;have Hcell:=Lib.hid hcell;have Hfin:=Lib.hid hfin;clear hwx hq E3 hnew hcell hfin v0 v1 v2 v3 v4 v5 v6 v7 v8
 go_loop [3,5,6,27] (fun v3 _ _ x=>∃k:Nat,k≤i∧x=.int .i64 k∧v3=.int .i64 (-1)) (fun _ _ _ x=>9 - (intOf x).toNat)
 case atStart=>exact ⟨0,Nat.zero_le _,rfl,rfl⟩
 case round=>
  obtain ⟨k,hk,rfl,rfl⟩:=hrel
  have hlt:(k:Int)<9:=by omega
  have hd:decide ((k:Int)<9)=true:=by simp;omega
  have hc:=Hcell.out k (by omega);rw[Nat.zero_add]at hc;have hcall:=is_at HE3.out hi (show k<9 by omega);unfold errV at hc hcall;have Hcall:=Lib.hid hcall;clear hcall
  go_wp2_with fail
  refine Hcall.out.mono ?_;rintro e w' ⟨rfl,rfl⟩
  by_cases e:i=k
  ·subst e
   have hdd:decide (i=i)=true:=by simp
   rw[hdd];clear hdd;go_wp2;go_ret2;exact ⟨rfl,Hfin.out⟩
  ·have hdd:decide (i=k)=false:=by simpa using e
   have hik:k<i:=by omega
   rw[hdd];clear hdd e;go_wp2
   go_round
   case rel=>exact ⟨k+1,by omega,by go_num,rfl⟩
   case measure=>simp[intOf];omega
end
section
open Go.RowKit Qh
structure Errs4(W:World)(a:Nat→Addr):Prop where
 v1:W.cell? ⟨0,0,none⟩=some (.iface 241 (.pointer (some (a 1))))
 v4:W.cell? ⟨4,0,none⟩=some (.iface 241 (.pointer (some (a 4))))
 v5:W.cell? ⟨8,0,none⟩=some (.iface 241 (.pointer (some (a 5))))
 v6:W.cell? ⟨2,0,none⟩=some (.iface 241 (.pointer (some (a 6))))
theorem Errs4.keep{W W':World}{a:Nat→Addr}(h:Errs4 W a)(hM:Mod noF W W'):Errs4 W' a:=⟨hM.cell h.v1 (fun e=>e),hM.cell h.v4 (fun e=>e),hM.cell h.v5 (fun e=>e),hM.cell h.v6 (fun e=>e)⟩
theorem ErrsAt.four{W:World}{a:Nat→Addr}(h:ErrsAt W a):Errs4 W a:=⟨h.v1,h.v4,h.v5,h.v6⟩
end
section
open Go.RowKit Qs Qh
theorem acellInfo:(Tryz.prog.info? 220).map (fun i=>(i.zero,i.size,i.bytes))=some (some (.agg #[.int .i64 0,.int .i64 0,.int .i64 0,.int .i64 0,.int .i64 0,.bool false]),6,48):=by kernel_rfl
abbrev AAt(w:World)(b g:Nat)(l:List Cell):Prop:=ArenaAt 196 220 w b g l
theorem make_arena(n:Nat)(hn:n≤64)(w:World):(Instr.makeSlice 194 (.int .i64 n) (.int .i64 n)).run Tryz.prog w=.ok (.slice (some ⟨w.heap.size,0,none⟩) n n) (w.alloc (.cells (flat acell 0 (List.replicate n freshCell)).toArray 220)):=by
 obtain ⟨i,hi,hz0,hz1,hz2⟩:=info_parts acellInfo;have:=run_makeSlice (P:=Tryz.prog) w 194 220 i _ Tryz.underlying194 hi hz0 .i64 .i64 n n (by omega) (by omega) (by rw[hz1];simp;omega) (by rw[hz2];omega) (by omega);rw[this,hz1]
 have e:(madeCells (Value.agg #[.int .i64 0,.int .i64 0,.int .i64 0,.int .i64 0,.int .i64 0,.bool false]).cells (n*6))=(flat acell 0 (List.replicate n freshCell)).toArray:=by
  rw[←fresh_flat n];simp[Value.cells]
 simp only[Int.toNat_natCast];rw[e]
theorem arenaNew_ok(n:Nat)(h1:1≤n)(hn:n≤64)(w:World) :
  Calls Tryz.prog 74 #[.int .i64 n] w fun e w'=>e=.returned (.tuple #[.pointer (some ⟨w.heap.size+1,0,none⟩),.nilIface])∧AAt w' (w.heap.size+1) w.heap.size (List.replicate n freshCell)∧Mod noF w w':=by
 have d0:decide ((n:Int)<1)=false:=by simp;omega
 have d1:decide ((64:Int)<(n:Int))=false:=by simp;omega
 have hmk:=make_arena n hn
 go_enter Tryz.func74,Tryz.ntmps74
 go_wp2;go_ret2;refine ⟨rfl,⟨?_,?_,by omega⟩,((Mod.refl _ _).alloc _).alloc _⟩
 ·have:=heap_alloc_new (w.alloc (.cells (flat acell 0 (List.replicate n freshCell)).toArray 220)) (.cells #[.slice (some ⟨w.heap.size,0,none⟩) n n] 196)
  simpa using this
 ·exact (Below.heap_alloc (w.alloc _) _ _ (lt_of_block (heap_alloc_new w _))).trans (heap_alloc_new w _)
theorem arenaNew_bad(n:Int)(h:n<1∨64<n)(w:World)(a:Nat→Addr)(E:Errs4 w a) :
  Calls Tryz.prog 74 #[.int .i64 n] w fun e w'=>e=.returned (.tuple #[.pointer none,errV a 1])∧Mod noF w w':=by
 have hv:=E.v1
 by_cases h1:n<1
 ·have d0:decide (n<1)=true:=by simpa using h1
  go_enter Tryz.func74,Tryz.ntmps74
  go_wp2
  go_quiet (fail)
  go_wp2;go_ret2;exact ⟨rfl,(Mod.refl _ _).drewN _⟩
 ·have d0:decide (n<1)=false:=by simpa using h1
  have d1:decide (64<n)=true:=by simp;omega
  go_enter Tryz.func74,Tryz.ntmps74
  go_wp2
  go_quiet (fail)
  go_wp2;go_ret2;exact ⟨rfl,(Mod.refl _ _).drewN _⟩
theorem arenaAlloc{w:World}{b g:Nat}{l:List Cell}{a:Nat→Addr}(R:AAt w b g l)(E:Errs4 w a)(hn:l.length≤64)(ht:∀(i:Nat) c,l[i]?=some c→0≤c.times∧c.times≤1000000000) :
  Calls Tryz.prog 85 #[.pointer (some ⟨b,0,none⟩)] w fun e w'=>
   (∃i c,allocAt l 0=some (i,c.times)∧l[i]?=some c∧e=.returned (.tuple #[.agg #[.int .i64 i,.int .i64 c.times],.nilIface])∧AAt w' b g (l.set i (givenCell c))∧Mod (fun x=>x=g) w w')∨
   (allocAt l 0=none∧e=.returned (.tuple #[.agg #[.int .i64 0,.int .i64 0],errV a 5])∧Mod noF w w'):=by
 have h0:=R.slice;obtain ⟨hb,hg⟩:=R.lt;have hfz:=R.free;have HR:=Lib.hid R;have HE:=Lib.hid E;have Ht:=Lib.hid ht;clear R E ht
 go_enter Tryz.func85,Tryz.ntmps85
 go_wp2
 go_loop [4,5,11] (fun _ _ i=>∃k:Nat,k≤l.length∧i=.int .i64 k∧∀(j:Nat) x,j<k→l[j]?=some x→x.here=true) (fun _ _ i=>l.length - (intOf i).toNat)
 case atStart=>exact ⟨0,by omega,rfl,fun j x hj=>absurd hj (by omega)⟩
 case round=>
  obtain ⟨k,hk,rfl,hall⟩:=hrel;have Hall:=Lib.hid hall;clear hall
  by_cases hlt:k<l.length
  ·have hd:decide ((k:Int)<(l.length:Int))=true:=by simp;omega
   obtain ⟨c,hc⟩:∃c,l[k]?=some c:=⟨_,List.getElem?_eq_getElem hlt⟩;have c0:w.cell? ⟨g,k*6,none⟩=some (.int .i64 (c.words.getD 0 0)):=(HR.out.cell hc (j:=0) (by omega)).trans rfl;have c1:w.cell? ⟨g,k*6+1,none⟩=some (.int .i64 (c.words.getD 1 0)):=(HR.out.cell hc (j:=1) (by omega)).trans rfl
   have c2:w.cell? ⟨g,k*6+2,none⟩=some (.int .i64 (c.words.getD 2 0)):=(HR.out.cell hc (j:=2) (by omega)).trans rfl;have c3:w.cell? ⟨g,k*6+3,none⟩=some (.int .i64 (c.words.getD 3 0)):=(HR.out.cell hc (j:=3) (by omega)).trans rfl
   have c4:w.cell? ⟨g,k*6+4,none⟩=some (.int .i64 c.times):=(HR.out.cell hc (j:=4) (by omega)).trans rfl;have c5:w.cell? ⟨g,k*6+5,none⟩=some (.bool c.here):=(HR.out.cell hc (j:=5) (by omega)).trans rfl;obtain ⟨t0,t1⟩:=Ht.out k c hc;have Hc:=Lib.hid hc;clear hc
   cases hh:c.here with
   |true=>
    rw[hh]at c5;have Hh:=Lib.hid hh;clear hh;go_wp2
    go_round
    case rel=>
     refine ⟨k+1,by omega,by go_num,fun j x hj hx=>?_⟩
     by_cases e:j=k
     ·subst e;rw[Hc.out]at hx;cases hx;exact Hh.out
     ·exact Hall.out j x (by omega) hx
    case measure=>simp[intOf];omega
   |false=>
    rw[hh]at c5;have Hh:=Lib.hid hh;clear hh;have f0:=hfz (k*6);have f1:=hfz (k*6+1);have f2:=hfz (k*6+2);have f3:=hfz (k*6+3);have f4:=hfz (k*6+4);have f5:=hfz (k*6+5);clear hfz;generalize c.words.getD 0 0=y0 at c0;generalize c.words.getD 1 0=y1 at c1;generalize c.words.getD 2 0=y2 at c2
    generalize c.words.getD 3 0=y3 at c3;go_wp2;refine bodyPost_ret (v:=.tuple #[.agg #[.int .i64 k,.int .i64 c.times],.nilIface]) (by simp[results,Tryz.results85,go_sem]) rfl (.inl ⟨k,c,?_,Hc.out,rfl,(HR.out.given Hc.out).keep0 ((Mod.refl _ _).alloc _),?_⟩)
    ·have:=allocAt_found l 0 k c Hc.out Hh.out Hall.out;rw[Nat.zero_add]at this;exact this
    ·exact (((((((Mod.refl (fun x=>x=g) w).setCell (fun _=>rfl) _).setCell (fun _=>rfl) _).setCell (fun _=>rfl) _).setCell (fun _=>rfl) _).setCell (fun _=>rfl) _).setCell (fun _=>rfl) _).alloc _
  ·have hd:decide ((k:Int)<(l.length:Int))=false:=by simp;omega
   have hv:=(HE.out.keep ((Mod.refl noF w).alloc (.cells #[.int .i64 0,.int .i64 0] 101))).v5;go_wp2
   go_region
   all_goals go_wp2
   refine bodyPost_ret (v:=.tuple #[.agg #[.int .i64 0,.int .i64 0],errV a 5]) (by simp[results,Tryz.results85,go_sem,errV]) rfl (.inr ⟨?_,rfl,((Mod.refl _ _).alloc _).drew⟩);refine allocAt_none _ _ fun j x hx=>Hall.out j x ?_ hx
   have:=(List.getElem?_eq_some_iff.1 hx).1;omega
def countL(l:List Cell):Int:=((l.filter (·.here)).length:Int)
theorem countL_snoc(l:List Cell)(c:Cell):countL (l++[c])=countL l+(if c.here then 1 else 0):=by
 unfold countL;rw[List.filter_append];cases h:c.here <;> simp[h]
theorem countL_le(l:List Cell):0≤countL l∧countL l≤l.length:=by
 unfold countL;have:=List.length_filter_le (fun c:Cell=>c.here) l;omega
theorem arenaCount{w:World}{b g:Nat}{l:List Cell}(R:AAt w b g l)(hn:l.length≤64) :
  Calls Tryz.prog 103 #[.pointer (some ⟨b,0,none⟩)] w fun e w'=>e=.returned (.int .i64 (countL l))∧Mod noF w w':=by
 have h0:=R.slice;have HR:=Lib.hid R;clear R
 go_enter Tryz.func103,Tryz.ntmps103
 go_wp2
 go_loopw [3,5,11] (fun v _ i wr=>∃k:Nat,k≤l.length∧i=.int .i64 k∧v=.int .i64 (countL (l.take k))∧Mod noF w wr) (fun _ _ i _=>l.length - (intOf i).toNat)
 case atStart=>exact ⟨0,by omega,rfl,rfl,Mod.refl _ _⟩
 case round=>
  obtain ⟨k,hk,rfl,rfl,hM⟩:=hrel;have hb:=countL_le (l.take k);have hbl:(l.take k).length≤k:=List.length_take_le _ _;have hM':=Lib.hid hM;have Rr:=HR.out.keep0 hM
  by_cases hlt:k<l.length
  ·have hd:decide ((k:Int)<(l.length:Int))=true:=by simp;omega
   obtain ⟨c,hc⟩:∃c,l[k]?=some c:=⟨_,List.getElem?_eq_getElem hlt⟩;have c0:wr.cell? ⟨g,k*6,none⟩=some (.int .i64 (c.words.getD 0 0)):=(Rr.cell hc (j:=0) (by omega)).trans rfl;have c1:wr.cell? ⟨g,k*6+1,none⟩=some (.int .i64 (c.words.getD 1 0)):=(Rr.cell hc (j:=1) (by omega)).trans rfl
   have c2:wr.cell? ⟨g,k*6+2,none⟩=some (.int .i64 (c.words.getD 2 0)):=(Rr.cell hc (j:=2) (by omega)).trans rfl;have c3:wr.cell? ⟨g,k*6+3,none⟩=some (.int .i64 (c.words.getD 3 0)):=(Rr.cell hc (j:=3) (by omega)).trans rfl
   have c4:wr.cell? ⟨g,k*6+4,none⟩=some (.int .i64 c.times):=(Rr.cell hc (j:=4) (by omega)).trans rfl;have c5:wr.cell? ⟨g,k*6+5,none⟩=some (.bool c.here):=(Rr.cell hc (j:=5) (by omega)).trans rfl
   have htk:l.take (k+1)=l.take k++[c]:=by rw[List.take_succ_eq_append_getElem hlt];rw[List.getElem?_eq_getElem hlt]at hc;cases hc;rfl
   have hcs:=countL_snoc (l.take k) c;rw[←htk]at hcs;generalize c.words.getD 0 0=y0 at c0;generalize c.words.getD 1 0=y1 at c1;generalize c.words.getD 2 0=y2 at c2;generalize c.words.getD 3 0=y3 at c3;have Hcs:=Lib.hid hcs;clear hM Rr hc htk hcs
   cases hh:c.here with
   |true=>
    rw[hh]at c5;rw[hh]at Hcs;clear hh;go_wp2
    go_roundw
    case rel=>exact ⟨k+1,by omega,by go_num,by rw[Hcs.out];simp,hM'.out.alloc _⟩
    case measure=>simp[intOf];omega
   |false=>
    rw[hh]at c5;rw[hh]at Hcs;clear hh;go_wp2
    go_roundw
    case rel=>exact ⟨k+1,by omega,by go_num,by rw[Hcs.out];simp,hM'.out.alloc _⟩
    case measure=>simp[intOf];omega
  ·have hd:decide ((k:Int)<(l.length:Int))=false:=by simp;omega
   obtain rfl:k=l.length:=by omega
   have htk:l.take l.length=l:=List.take_length;rw[htk];clear hM Rr htk;go_wp2;go_ret;exact ⟨rfl,hM'.out⟩
end
section
open Go.RowKit Qs Qh
def errOf(a:Nat→Addr)(e:Int):Value:=if e=0 then .nilIface else errV a (e.toNat - 1)
theorem arenaWord_any(c g:Int)(w:World)(a:Nat→Addr)(E:ErrsAt w a) :
  Calls Tryz.prog 94 #[.agg #[.int .i64 c,.int .i64 g]] w fun e w'=>e=.returned (.tuple #[.int .i64 (wordV c g).1,errOf a (wordV c g).2])∧Mod noF w w':=by
 have hv:=(E.keep ((Mod.refl noF w).alloc (.cells #[.int .i64 c,.int .i64 g] 101))).v1;clear E
 by_cases c0:c<0
 ·have d0:decide (c<0)=true:=by simpa using c0
  have e:wordV c g=(0,2):=by simp only[wordV];rw[if_neg (by omega)]
  rw[e]
  go_enter Tryz.func94,Tryz.ntmps94
  go_wp2
  go_quiet (fail)
  go_wp2;go_ret2;exact ⟨rfl,((Mod.refl _ _).alloc _).drewN _⟩
 have d0:decide (c<0)=false:=by simpa using c0
 by_cases c1:64≤c
 ·have d1:decide (64≤c)=true:=by simpa using c1
  have e:wordV c g=(0,2):=by simp only[wordV];rw[if_neg (by omega)]
  rw[e]
  go_enter Tryz.func94,Tryz.ntmps94
  go_wp2
  go_quiet (fail)
  go_wp2;go_ret2;exact ⟨rfl,((Mod.refl _ _).alloc _).drewN _⟩
 have d1:decide (64≤c)=false:=by simpa using c1
 by_cases g0:g<0
 ·have d2:decide (g<0)=true:=by simpa using g0
  have e:wordV c g=(0,2):=by simp only[wordV];rw[if_neg (by omega)]
  rw[e]
  go_enter Tryz.func94,Tryz.ntmps94
  go_wp2
  go_quiet (fail)
  go_wp2;go_ret2;exact ⟨rfl,((Mod.refl _ _).alloc _).drewN _⟩
 have d2:decide (g<0)=false:=by simpa using g0
 by_cases g1:67108863<g
 ·have d3:decide (67108863<g)=true:=by simpa using g1
  have e:wordV c g=(0,2):=by
   simp only[wordV]
   rw[if_neg (fun h=>by
    have h5:isWord (g*64+c+1)=true:=h.2.2.2.2;simp only[isWord,W32,Bool.and_eq_true,decide_eq_true_eq]at h5
    omega)]
  rw[e]
  go_enter Tryz.func94,Tryz.ntmps94
  go_wp2
  go_quiet (fail)
  go_wp2;go_ret2;exact ⟨rfl,((Mod.refl _ _).alloc _).drewN _⟩
 have d3:decide (67108863<g)=false:=by simpa using g1
 by_cases n1:4294967295<g*64+c+1
 ·have d4:decide (4294967295<g*64+c+1)=true:=by simpa using n1
  have e:wordV c g=(0,2):=by
   simp only[wordV]
   rw[if_neg (fun h=>by
    have h5:isWord (g*64+c+1)=true:=h.2.2.2.2;simp only[isWord,W32,Bool.and_eq_true,decide_eq_true_eq]at h5
    omega)]
  rw[e]
  go_enter Tryz.func94,Tryz.ntmps94
  go_wp2
  go_quiet (fail)
  go_wp2;go_ret2;exact ⟨rfl,((Mod.refl _ _).alloc _).drewN _⟩
 ·have d4:decide (4294967295<g*64+c+1)=false:=by simpa using n1
  have hw:isWord (g*64+c+1)=true:=by simp only[isWord,W32,Bool.and_eq_true,decide_eq_true_eq];omega
  have e:wordV c g=(g*64+c+1,0):=by
   simp only[wordV];rw[if_pos ⟨by omega,by omega,by omega,by omega,hw⟩]
  rw[e]
  go_enter Tryz.func94,Tryz.ntmps94
  go_wp2;go_ret2;exact ⟨rfl,(Mod.refl _ _).alloc _⟩
theorem arenaRef_any(n:Int)(w:World)(a:Nat→Addr)(E:ErrsAt w a)(hlo : -9223372036854775808≤n)(hhi:n≤9223372036854775807) :
  Calls Tryz.prog 120 #[.int .i64 n] w fun e w'=>e=.returned (.tuple #[.agg #[.int .i64 (refV n).1,.int .i64 (refV n).2.1],errOf a (refV n).2.2])∧Mod noF w w':=by
 have E1:=E.keep ((Mod.refl noF w).alloc (.cells #[.int .i64 0,.int .i64 0] 101));have hv:=E1.v1;have hv4:=E1.v4;have hb:=World.block_lt_of_cell? _ _ hv;clear E E1
 by_cases h0:n=0
 ·subst h0
  go_enter Tryz.func120,Tryz.ntmps120
  go_wp2
  go_region
  all_goals go_wp2
  refine bodyPost_ret (v:=.tuple #[.agg #[.int .i64 0,.int .i64 0],errOf a 5]) (by simp[results,Tryz.results120,go_sem,errOf,errV]) rfl ⟨rfl,((Mod.refl _ _).alloc _).drew⟩
 ·have d0:(n==0)=false:=by simpa using h0
  cases hw:isWord n with
  |false=>
   have e:refV n=(0,0,2):=by simp[refV,refOf,h0,hw]
   rw[e];have Hw:=Lib.hid hw;clear hw
   go_enter Tryz.func120,Tryz.ntmps120
   go_wp2_with (go_at_call 78;refine (right_any _ _).mono ?_;rintro e w' ⟨rfl,rfl⟩;rw[Hw.out])
   go_region
   all_goals go_wp2
   refine bodyPost_ret (v:=.tuple #[.agg #[.int .i64 0,.int .i64 0],errOf a 2]) (by simp[results,Tryz.results120,go_sem,errOf,errV]) rfl ⟨rfl,((Mod.refl _ _).alloc _).drew⟩
  |true=>
   have e:refV n=((n - 1) % 64,(n - 1)/64,0):=by simp[refV,refOf,h0,hw]
   have hb:0≤n∧n<4294967296:=by simpa[isWord,W32]using hw
   obtain ⟨b0,b1⟩:=hb
   have b2:0≤n - 1:=by omega
   rw[e];have Hw:=Lib.hid hw;clear hw
   go_enter Tryz.func120,Tryz.ntmps120
   go_wp2_with (go_at_call 78;refine (right_any _ _).mono ?_;rintro e w' ⟨rfl,rfl⟩;rw[Hw.out])
   refine bodyPost_ret (v:=.tuple #[.agg #[.int .i64 ((n - 1) % 64),.int .i64 ((n - 1)/64)],.nilIface]) (by simp[results,Tryz.results120,go_sem]) rfl ⟨by simp[errOf],(Mod.refl _ _).alloc _⟩
end
section
open Go.RowKit Qs Qh
def thrV(cv:Nat→Value)(rb:Nat→Nat)(i:Nat)(_:Unit):List Value:=[cv i,.slice (some ⟨rb i,0,none⟩) 8 8,iv 0]
def thrFlat(cv:Nat→Value)(rb:Nat→Nat)(k:Nat):List Value:=flat (thrV cv rb) 0 (List.replicate k ())
theorem flat_snoc_unit(f:Nat→Unit→List Value):∀(k s:Nat),flat f s (List.replicate (k+1) ())=flat f s (List.replicate k ())++f (s+k) ()
 |0,s=>by simp[flat]
 |k+1,s=>by
  rw[List.replicate_succ,flat,flat_snoc_unit f k (s+1)];rw[show List.replicate (k+1) ()=() :: List.replicate k ()from rfl,flat,List.append_assoc];rw[show s+1+k=s+(k+1)from by omega]
theorem thrFlat_succ(cv:Nat→Value)(rb:Nat→Nat)(k:Nat):thrFlat cv rb (k+1)=thrFlat cv rb k++[cv k,.slice (some ⟨rb k,0,none⟩) 8 8,iv 0]:=by
 unfold thrFlat;rw[flat_snoc_unit];simp[thrV]
theorem thrFlat_congr{cv:Nat→Value}{rb rb':Nat→Nat}{k:Nat}(h:∀i,i<k→rb i=rb' i):thrFlat cv rb k=thrFlat cv rb' k:=by
 refine flat_congr2 _ _ 0 rfl fun i x y h1 _=>?_
 have:i<k:=by have:=(List.getElem?_eq_some_iff.1 h1).1;simpa using this
 simp[thrV,h i this]
structure ThrRel(W:World)(S bs b0 bm:Nat)(iw rw_:Value)(n:Nat)(L:Lay)(m1:M)(regs:List (List Int))(cv:Nat→Value)(k:Nat)(v:Value)(rb:Nat→Nat)(wr:World):Prop where
 rep:Rep ty memK wr L m1
 below:Below W.heap.size W wr
 size:S≤wr.heap.size
 mach:wr.heap[b0]?=some (.cells #[.pointer (some ⟨bm,0,none⟩),v,.slice none 0 0,.int .i64 0] 53 (0,0))
 box:wr.heap[bs]?=some (.cells #[.int .i64 n,iw,rw_] 24 (0,0))
 row:wr.ownsRow 0 48 3 v k (thrFlat cv rb k)
 vown:∀g,v.ownBlock=some g→S≤g
 regs_:∀i,i<k→wr.heap[rb i]?=some (.cells ((pad 8 (regs.getD i [])).map (Value.int .i64)).toArray 3 (0,0))
 rbs:∀i,i<k→S≤rb i
 inj:∀i j,i<k→j<k→rb i=rb j→i=j
 vne:∀g i,v.ownBlock=some g→i<k→g≠rb i
theorem ThrRel.next{W wr w3 w4:World}{S bs b0 bm n k:Nat}{iw rw_ v v4:Value}{L:Lay}{m1:M}{regs:List (List Int)}{cv:Nat→Value}{rb:Nat→Nat}
  (h:ThrRel W S bs b0 bm iw rw_ n L m1 regs cv k v rb wr) (hW:W.heap.size≤b0) (hWS:W.heap.size≤S) (hb0:b0<S) (hbs:bs<S) (hbb:bs≠b0) (hfS:∀j,Foot ty memK L m1 j→j<S∧j≠b0)
  (hM3:Mod noF wr w3) {r:Nat} (hr0:wr.heap.size≤r) (hr:w3.heap[r]?=some (.cells ((pad 8 (regs.getD k [])).map (Value.int .i64)).toArray 3 (0,0)))
  (hown:w4.ownsRow 0 48 3 v4 (k+1) (thrFlat cv rb k++[cv k,.slice (some ⟨r,0,none⟩) 8 8,iv 0])) (hg:w3.grownBy w4 v.ownBlock) (hfr:∀g,v4.ownBlock=some g→v.ownBlock=some g∨w3.heap.size≤g) :
  ThrRel W S bs b0 bm iw rw_ n L m1 regs cv (k+1) v4 (fun i=>if i=k then r else rb i) (w4.setCell ⟨b0,1,none⟩ v4):=by
 have hlt3:=lt_of_block hr;have hsz:=h.size;have hM4:Mod (fun x=>v.ownBlock=some x) wr w4:=hM3.any.grown hg fun j hj _=>hj;have hM4b:Mod (fun x=>v.ownBlock=some x) w3 w4:=(Mod.refl (fun x=>v.ownBlock=some x) w3).grown hg fun j hj _=>hj
 have hnb0:¬v.ownBlock=some b0:=fun e=>by have:=h.vown _ e;omega
 have hM5:Mod (fun x=>x=b0) w4 (w4.setCell ⟨b0,1,none⟩ v4):=(Mod.refl (fun x=>x=b0) w4).setCell (fun _=>rfl) v4;have hM:Mod (fun x=>v.ownBlock=some x∨x=b0) wr (w4.setCell ⟨b0,1,none⟩ v4):=(hM4.mono fun x _ hx=>.inl hx).trans hM5 fun x _ hx=>.inr hx
 have hv4:∀g,v4.ownBlock=some g→S≤g∧g≠b0:=fun g hg4=>by
  rcases hfr g hg4 with e|e
  ·have:=h.vown g e;exact ⟨this,by omega⟩
  ·have:=hM3.size;exact ⟨by omega,by omega⟩
 have hrb:thrFlat cv rb k=thrFlat cv (fun i=>if i=k then r else rb i) k:=thrFlat_congr fun i hi=>by rw[if_neg (by omega)]
 refine ⟨?_,?_,?_,?_,?_,?_,?_,?_,?_,?_,?_⟩
 ·exact h.rep.frame hM fun j hj hx=>by
   have:=hfS j hj
   rcases hx with e|e
   ·have:=h.vown j e;omega
   ·exact this.2 e
 ·exact h.below.trans (hM.under h.below.size fun j hj=>by
   rcases hj with e|e
   ·have:=h.vown j e;omega
   ·omega)
 ·have:=hM.size;omega
 ·rw[Qh.heap_setCell_same (hM4.heap h.mach hnb0)];simp
 ·exact hM.heap h.box (fun e=>by
   rcases e with e|e
   ·have:=h.vown _ e;omega
   ·exact hbb e)
 ·rw[thrFlat_succ,←hrb];simp only[if_true];exact ownsRow_setCell_other hown (fun hx=>(hv4 _ hx).2 rfl) _
 ·exact fun g hg4=>(hv4 g hg4).1
 ·intro i hi
  by_cases e:i=k
  ·subst e;simp only[if_true];have h1:=hM4b.heap hr (fun e=>by have:=World.ownsRow.lt h.row _ e;omega);exact hM5.heap h1 (by omega)
  ·simp only[if_neg e]
   exact hM.heap (h.regs_ i (by omega)) (fun hx=>by
    rcases hx with e1|e1
    ·exact h.vne _ i e1 (by omega) rfl
    ·have:=h.rbs i (by omega);omega)
 ·intro i hi
  by_cases e:i=k
  ·simp only[if_pos e];omega
  ·simp only[if_neg e];exact h.rbs i (by omega)
 ·intro i j hi hj hij
  by_cases e1:i=k <;> by_cases e2:j=k
  ·omega
  ·simp only[if_pos e1,if_neg e2]at hij;have:=lt_of_block (h.regs_ j (by omega));omega
  ·simp only[if_neg e1,if_pos e2]at hij;have:=lt_of_block (h.regs_ i (by omega));omega
  ·simp only[if_neg e1,if_neg e2]at hij;exact h.inj i j (by omega) (by omega) hij
 ·intro g i hg4 hi
  by_cases e:i=k
  ·simp only[if_pos e]
   rcases hfr g hg4 with e1|e1
   ·have:=(World.ownsRow.lt h.row _ e1).2;omega
   ·omega
  ·simp only[if_neg e]
   rcases hfr g hg4 with e1|e1
   ·exact h.vne g i e1 (by omega)
   ·have:=lt_of_block (h.regs_ i (by omega));have:=hM3.size;omega
def startM(n:Nat)(init regs:List (List Int))(codes:List (List Instr)):M:=
 ⟨(List.range n).map (cellC init init.length),List.replicate codes.length [],codes.mapIdx fun i c=>⟨c,pad 8 (regs.getD i []),0⟩,[],0⟩
end
end Go.Proofs.YtciaficoeajeaaaGreatDoor
section
namespace Qh
open Go Go.RowKit Qs
def machL(L:Lay)(b0 g:Nat)(rb:Nat→Nat)(sp:Nat)(jk:List Value)(cv:Nat→Value):Lay where
 blk a i:=match a with|0=>b0|4=>g|8=>rb i|_=>L.blk a i
 nil a i:=match a with|4=>false|8=>false|5=>true|_=>L.nil a i
 sp a i:=match a with|4=>sp|8=>0|5=>0|_=>L.sp a i
 junk a i:=match a with|4=>jk|8=>[]|5=>[]|_=>L.junk a i
 code:=cv
variable {L:Lay}{b0 g:Nat}{rb:Nat→Nat}{sp:Nat}{jk:List Value}{cv:Nat→Value}
theorem machL_obj(τ : Ty)(m:M)(T:List Thr)(mk:List (Int × Int))(f:Int){a:Nat}(h:memK a=true)(i:Nat):obj τ (machL L b0 g rb sp jk cv) {m with T:=T,marks:=mk,faults:=f} a i=obj τ L m a i:=by
 simp only[memK,Bool.or_eq_true,beq_iff_eq]at h
 rcases h with (((rfl|rfl)|rfl)|rfl)|rfl <;> rfl
theorem machL_blk{a:Nat}(h:memK a=true)(i:Nat):(machL L b0 g rb sp jk cv).blk a i=L.blk a i:=by
 simp only[memK,Bool.or_eq_true,beq_iff_eq]at h
 rcases h with (((rfl|rfl)|rfl)|rfl)|rfl <;> rfl
theorem machL_cases(τ : Ty)(m:M){a i:Nat}(h:(obj τ (machL L b0 g rb sp jk cv) m a i).isSome):(memK a=true)∨(a=0∧i=0)∨(a=4∧i=0)∨(a=8∧i<m.T.length):=by
 match a with
 |0=>simp only[obj]at h;split at h <;> simp_all
 |1=>exact .inl rfl
 |2=>exact .inl rfl
 |3=>exact .inl rfl
 |4=>simp only[obj]at h;split at h <;> simp_all
 |5=>simp[obj,machL]at h
 |6=>exact .inl rfl
 |7=>exact .inl rfl
 |8=>
  right;right;right;refine ⟨rfl,?_⟩
  rcases Nat.lt_or_ge i m.T.length with h'|h'
  ·exact h'
  ·simp[obj,machL,List.getElem?_eq_none h']at h
 |n+9=>simp[obj]at h
end Qh
namespace Go.Proofs.YtciaficoeajeaaaGreatDoor
open Go.RowKit Qs Qh
theorem startM_T{n:Nat}{init regs:List (List Int)}{codes:List (List Instr)}{i:Nat}{c:List Instr}(h:codes[i]?=some c):(startM n init regs codes).T[i]?=some ⟨c,pad 8 (regs.getD i []),0⟩:=by
 simp[startM,h]
theorem startM_T'{n:Nat}{init regs:List (List Int)}{codes:List (List Instr)}{i:Nat}{h:Thr}(hh:(startM n init regs codes).T[i]?=some h):∃c,codes[i]?=some c∧h=⟨c,pad 8 (regs.getD i []),0⟩:=by
 simp only[startM,List.getElem?_mapIdx]at hh;obtain ⟨c,hc,rfl⟩:=Option.map_eq_some_iff.1 hh;exact ⟨c,hc,rfl⟩
theorem startM_len(n:Nat)(init regs:List (List Int))(codes:List (List Instr)):(startM n init regs codes).T.length=codes.length:=by simp[startM]
end Go.Proofs.YtciaficoeajeaaaGreatDoor
end
namespace Go.Proofs.YtciaficoeajeaaaGreatDoor
section
open Go.RowKit Go.Extern.Stop Go.Stop Go.Extern Qh
theorem coded_nil(n:Int)(w:World):Calls Tryz.prog 13 #[.nilIface,.int .i64 n] w fun e w'=>e=.returned (.bool (decide (n=0)))∧w'=w:=by
 by_cases h:n=0
 ·subst h
  go_enter Tryz.func13,Tryz.ntmps13
  go_wp2_with fail
  refine (code_nil w).mono ?_;rintro e w' ⟨rfl,rfl⟩;go_wp2;go_ret;exact ⟨rfl,rfl⟩
 ·have h1:((0:Int)==n)=false:=by rw[beq_eq_false_iff_ne];omega
  have h2:decide (n=0)=false:=by simpa using h
  rw[h2]
  go_enter Tryz.func13,Tryz.ntmps13
  go_wp2_with fail
  refine (code_nil w).mono ?_;rintro e w' ⟨rfl,rfl⟩;go_wp2;go_ret;exact ⟨rfl,rfl⟩
theorem coded_at{w:World}{a:Nat→Addr}(E:ErrsAt w a)(i:Nat)(hi:i<9)(n:Int):Calls Tryz.prog 13 #[errV a i,.int .i64 n] w fun e w'=>e=.returned (.bool (decide (n=(i:Int)+1)))∧Mod noF w w':=by
 have hcall:=code_at E i hi
 by_cases h:n=(i:Int)+1
 ·subst h;rw[show decide ((i:Int)+1=(i:Int)+1)=true by simp];have Hcall:=Lib.hid hcall;clear hcall E
  go_enter Tryz.func13,Tryz.ntmps13
  go_wp2_with fail
  refine Hcall.out.mono ?_;rintro e w' ⟨rfl,hm⟩;have Hm:=Lib.hid hm;clear hm;go_wp2;go_ret;exact ⟨rfl,Hm.out⟩
 ·have h1:((i:Int)+1==n)=false:=by rw[beq_eq_false_iff_ne];omega
  rw[show decide (n=(i:Int)+1)=false by simpa using h];have Hcall:=Lib.hid hcall;clear hcall E h
  go_enter Tryz.func13,Tryz.ntmps13
  go_wp2_with fail
  refine Hcall.out.mono ?_;rintro e w' ⟨rfl,hm⟩;have Hm:=Lib.hid hm;clear hm;go_wp2;go_ret;exact ⟨rfl,Hm.out⟩
end
section
open Go.RowKit Qs Qh
variable {K:Nat→Bool}{w:World}{L:Lay}{m:M}{N:Int}
theorem count_any(R:Rep ty K w L m)(h1:K 1=true)(h2:K 2=true)(om:OkM N m)(ol:OkL L m) :
  Calls Tryz.prog 61 #[.pointer (some ⟨L.blk 1 0,0,none⟩)] w fun e w'=>e=.returned (.int .i64 (countL m.cells))∧Mod noF w w':=by
 have h0:=R.cells_at h1 ol;have hb:=R.lt1 h1;have hb2:=R.lt2 h2 ol;have hn:=om.cells;have hcs:=fun (i:Nat) (c:Cell) (hc:m.cells[i]?=some c)=>R.cell_at h2 ol hc;have Hcs:=Lib.hid hcs;clear R hcs
 go_enter Tryz.func61,Tryz.ntmps61
 go_wp2
 go_loop [3,4] (fun v i=>∃k:Nat,k≤m.cells.length∧i=.int .i64 k∧v=.int .i64 (countL (m.cells.take k))) (fun _ i=>m.cells.length - (intOf i).toNat)
 case atStart=>exact ⟨0,by omega,rfl,rfl⟩
 case round=>
  obtain ⟨k,hk,rfl,rfl⟩:=hrel;have hb:=countL_le (m.cells.take k);have hbl:(m.cells.take k).length≤k:=List.length_take_le _ _
  by_cases hlt:k<m.cells.length
  ·have hd:decide ((k:Int)<(m.cells.length:Int))=true:=by simp;omega
   have hki:(k:Int)<(m.cells.length:Int):=by omega
   obtain ⟨c,hc⟩:∃c,m.cells[k]?=some c:=⟨_,List.getElem?_eq_getElem hlt⟩;obtain ⟨c0,c1,c2⟩:=Hcs.out k c hc
   have htk:m.cells.take (k+1)=m.cells.take k++[c]:=by rw[List.take_succ_eq_append_getElem hlt];rw[List.getElem?_eq_getElem hlt]at hc;cases hc;rfl
   have hcs:=countL_snoc (m.cells.take k) c;rw[←htk]at hcs;have Hcs:=Lib.hid hcs;clear hc htk hcs
   cases hh:c.here with
   |true=>
    rw[hh]at c2;rw[hh]at Hcs;clear hh;go_wp2
    go_round
    case rel=>exact ⟨k+1,by omega,by go_num,by rw[Hcs.out];simp⟩
    case measure=>simp[intOf];omega
   |false=>
    rw[hh]at c2;rw[hh]at Hcs;clear hh;go_wp2
    go_round
    case rel=>exact ⟨k+1,by omega,by go_num,by rw[Hcs.out];simp⟩
    case measure=>simp[intOf];omega
  ·have hd:decide ((k:Int)<(m.cells.length:Int))=false:=by simp;omega
   obtain rfl:k=m.cells.length:=by omega
   have htk:m.cells.take m.cells.length=m.cells:=List.take_length;rw[htk];clear htk;go_wp2;go_ret;exact ⟨rfl,Mod.refl _ _⟩
end
section
open Go.RowKit Qs Qh
theorem fine_any(w:World):Calls Tryz.prog 65 #[] w fun e w'=>e=.returned (.agg #[.int .i64 0,.int .i64 (-1)])∧Mod noF w w':=by
 go_enter Tryz.func65,Tryz.ntmps65
 go_wp2;exact bodyPost_ret (v:=.agg #[.int .i64 0,.int .i64 (-1)]) (by simp[results,Tryz.results65,go_sem]) rfl ⟨rfl,(Mod.refl _ _).alloc _⟩
end
section
open Go.RowKit Qs Qh
theorem start_res(w:World)(a b:Obj):((w.alloc a).alloc b).heap[w.heap.size+1]?=some b:=by
 have h0:=heap_alloc_new (w.alloc a) b
 simpa using h0
end
end Go.Proofs.YtciaficoeajeaaaGreatDoor
