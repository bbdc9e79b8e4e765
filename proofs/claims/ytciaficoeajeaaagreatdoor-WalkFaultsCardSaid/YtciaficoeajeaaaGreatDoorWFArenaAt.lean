/- (*arena.Arena).at, .word, .Load, .Store, .Free. -/
import Derived.Test.YtciaficoeajeaaaGreatDoorWFm5
import Derived.IntWalk
import Derived.Outline
set_option linter.unusedVariables false
set_option linter.unusedSimpArgs false
set_option linter.unusedSectionVars false
set_option maxHeartbeats 4000000
namespace Go.Proofs.YtciaficoeajeaaaGreatDoor
open Go.RowKit Qs Qh
abbrev refBox(c g:Int):Obj:=.cells #[.int .i64 c,.int .i64 g] 101
theorem hereIn_at{l:List Cell}{c g:Int}(h:hereIn l c g=true):∃i x,c=((i:Nat):Int)∧i<l.length∧l[i]?=some x∧x.here=true∧g=x.times - 1:=by
 unfold hereIn cellAt at h
 by_cases hc:c<0
 ·rw[if_pos hc]at h;cases h
 ·rw[if_neg hc]at h
  cases e:l[c.toNat]? with
  |none=>rw[e]at h;cases h
  |some x=>
   rw[e]at h;simp only[Bool.and_eq_true,decide_eq_true_eq]at h;exact ⟨c.toNat,x,by omega,(List.getElem?_eq_some_iff.1 e).1,e,h.1,h.2⟩
theorem arenaAt_hit{w:World}{b g:Nat}{l:List Cell}(R:AAt w b g l)(hn:l.length≤64){i:Nat}{x:Cell}(hi:l[i]?=some x)(hh:x.here=true)(ht:0≤x.times∧x.times≤1000000000) :
  Calls Tryz.prog 119 #[.pointer (some ⟨b,0,none⟩),.agg #[.int .i64 i,.int .i64 (x.times - 1)]] w fun e w'=>e=.returned (.tuple #[.pointer (some ⟨g,i*6,none⟩),.nilIface])∧Mod noF w w':=by
 have hil:i<l.length:=(List.getElem?_eq_some_iff.1 hi).1;obtain ⟨ht0,ht1⟩:=ht;have hq:=(Mod.refl noF w).alloc (refBox i (x.times - 1));have R1:=R.keep0 hq;obtain ⟨hb,hg⟩:=R1.lt;have hnew:=heap_alloc_new w (refBox i (x.times - 1));obtain ⟨w1,hw1⟩:∃w1,w.alloc (refBox i (x.times - 1))=w1:=⟨_,rfl⟩
 rw[hw1]at hq R1 hnew hb hg;obtain ⟨ka,h0⟩:=R1.slice;have c4:w1.cell? ⟨g,i*6+4,none⟩=some (.int .i64 x.times):=(R1.cell hi (j:=4) (by omega)).trans rfl;have c5:w1.cell? ⟨g,i*6+5,none⟩=some (.bool true):=(R1.cell hi (j:=5) (by omega)).trans (by simp[acell,hh])
 have b0:w1.cell? ⟨w.heap.size,0,none⟩=some (.int .i64 i):=(cell_of_heap hnew 0).trans rfl;have b1:w1.cell? ⟨w.heap.size,1,none⟩=some (.int .i64 (x.times - 1)):=(cell_of_heap hnew 1).trans rfl;have hbs:=lt_of_block hnew
 have d0:decide ((i:Int)<0)=false:=by simp
 have d1:decide (l.length≤i)=false:=by simp;omega
 have hwr:IntKind.i64.wrap (x.times - 1)=x.times - 1:=Go.IntWalk.i64_in _ (by omega)
 have hlt:(i:Int)<(l.length:Int):=by omega
 have hne:(x.times - 1 != x.times - 1)=false:=by simp
 have Hq:=Lib.hid hq;have Hw1:=Lib.hid hw1;clear R R1 hi hh hq hnew hw1
 go_enter Tryz.func119,Tryz.ntmps119
 go_wp2;rw[Hw1.out]
 go_quiet (fail)
 go_wp2
 go_quiet (fail)
 go_wp2;go_ret2;exact ⟨rfl,(Hq.out.drewN _).drewN _⟩
theorem arenaAt_neg{w:World}{b g:Nat}{l:List Cell}{a:Nat→Addr}(R:AAt w b g l)(E:Errs4 w a)(hn:l.length≤64)(c r:Int)(hc:c<0) :
  Calls Tryz.prog 119 #[.pointer (some ⟨b,0,none⟩),.agg #[.int .i64 c,.int .i64 r]] w fun e w'=>e=.returned (.tuple #[.pointer none,errV a 6])∧Mod noF w w':=by
 have hq:=(Mod.refl noF w).alloc (refBox c r);have R1:=R.keep0 hq;have E1:=E.keep hq;have hnew:=heap_alloc_new w (refBox c r);obtain ⟨w1,hw1⟩:∃w1,w.alloc (refBox c r)=w1:=⟨_,rfl⟩;rw[hw1]at hq R1 E1 hnew;obtain ⟨hb,hg⟩:=R1.lt;obtain ⟨ka,h0⟩:=R1.slice;have hv:=E1.v6
 have b0:w1.cell? ⟨w.heap.size,0,none⟩=some (.int .i64 c):=(cell_of_heap hnew 0).trans rfl;have b1:w1.cell? ⟨w.heap.size,1,none⟩=some (.int .i64 r):=(cell_of_heap hnew 1).trans rfl;have hbs:=lt_of_block hnew
 have d0:decide (c<0)=true:=by simpa using hc
 have Hq:=Lib.hid hq;have Hw1:=Lib.hid hw1;clear R R1 E E1 hq hnew hw1
 go_enter Tryz.func119,Tryz.ntmps119
 go_wp2;rw[Hw1.out]
 go_quiet (fail)
 go_wp2
 go_quiet (fail)
 go_wp2;go_ret2;exact ⟨rfl,(Hq.out.drewN _).drewN _⟩
theorem arenaAt_big{w:World}{b g:Nat}{l:List Cell}{a:Nat→Addr}(R:AAt w b g l)(E:Errs4 w a)(hn:l.length≤64)(c r:Int)(hc:(l.length:Int)≤c) :
  Calls Tryz.prog 119 #[.pointer (some ⟨b,0,none⟩),.agg #[.int .i64 c,.int .i64 r]] w fun e w'=>e=.returned (.tuple #[.pointer none,errV a 6])∧Mod noF w w':=by
 have hq:=(Mod.refl noF w).alloc (refBox c r);have R1:=R.keep0 hq;have E1:=E.keep hq;have hnew:=heap_alloc_new w (refBox c r);obtain ⟨w1,hw1⟩:∃w1,w.alloc (refBox c r)=w1:=⟨_,rfl⟩;rw[hw1]at hq R1 E1 hnew;obtain ⟨hb,hg⟩:=R1.lt;obtain ⟨ka,h0⟩:=R1.slice;have hv:=E1.v6
 have b0:w1.cell? ⟨w.heap.size,0,none⟩=some (.int .i64 c):=(cell_of_heap hnew 0).trans rfl;have b1:w1.cell? ⟨w.heap.size,1,none⟩=some (.int .i64 r):=(cell_of_heap hnew 1).trans rfl;have hbs:=lt_of_block hnew
 have d0:decide (c<0)=false:=by simp;omega
 have d1:decide ((l.length:Int)≤c)=true:=by simpa using hc
 have Hq:=Lib.hid hq;have Hw1:=Lib.hid hw1;clear R R1 E E1 hq hnew hw1
 go_enter Tryz.func119,Tryz.ntmps119
 go_wp2;rw[Hw1.out]
 go_quiet (fail)
 go_wp2
 go_quiet (fail)
 go_wp2;go_ret2;exact ⟨rfl,(Hq.out.drewN _).drewN _⟩
theorem arenaAt_gone{w:World}{b g:Nat}{l:List Cell}{a:Nat→Addr}(R:AAt w b g l)(E:Errs4 w a)(hn:l.length≤64)(c r:Int){i:Nat}{x:Cell}(hci:c=i)(hi:l[i]?=some x)(hh:x.here=false) :
  Calls Tryz.prog 119 #[.pointer (some ⟨b,0,none⟩),.agg #[.int .i64 c,.int .i64 r]] w fun e w'=>e=.returned (.tuple #[.pointer none,errV a 6])∧Mod noF w w':=by
 subst hci;have hil:i<l.length:=(List.getElem?_eq_some_iff.1 hi).1;have hq:=(Mod.refl noF w).alloc (refBox i r);have R1:=R.keep0 hq;have E1:=E.keep hq;have hnew:=heap_alloc_new w (refBox i r);obtain ⟨w1,hw1⟩:∃w1,w.alloc (refBox i r)=w1:=⟨_,rfl⟩;rw[hw1]at hq R1 E1 hnew;obtain ⟨hb,hg⟩:=R1.lt
 obtain ⟨ka,h0⟩:=R1.slice;have hv:=E1.v6;have b0:w1.cell? ⟨w.heap.size,0,none⟩=some (.int .i64 i):=(cell_of_heap hnew 0).trans rfl;have b1:w1.cell? ⟨w.heap.size,1,none⟩=some (.int .i64 r):=(cell_of_heap hnew 1).trans rfl;have hbs:=lt_of_block hnew
 have hlt:(i:Int)<(l.length:Int):=by omega
 have c5:w1.cell? ⟨g,i*6+5,none⟩=some (.bool false):=(R1.cell hi (j:=5) (by omega)).trans (by simp[acell,hh])
 have d0:decide ((i:Int)<0)=false:=by simp
 have d1:decide (l.length≤i)=false:=by simp;omega
 have Hq:=Lib.hid hq;have Hw1:=Lib.hid hw1;clear R R1 E E1 hq hnew hw1
 go_enter Tryz.func119,Tryz.ntmps119
 go_wp2;rw[Hw1.out]
 go_quiet (fail)
 go_wp2
 go_quiet (fail)
 go_wp2;go_ret2;exact ⟨rfl,(Hq.out.drewN _).drewN _⟩
theorem arenaAt_old{w:World}{b g:Nat}{l:List Cell}{a:Nat→Addr}(R:AAt w b g l)(E:Errs4 w a)(hn:l.length≤64)(c r:Int){i:Nat}{x:Cell}(hci:c=i)(hi:l[i]?=some x)(hh:x.here=true)(ht:0≤x.times∧x.times≤1000000000)(hr:¬r=x.times - 1) :
  Calls Tryz.prog 119 #[.pointer (some ⟨b,0,none⟩),.agg #[.int .i64 c,.int .i64 r]] w fun e w'=>e=.returned (.tuple #[.pointer none,errV a 6])∧Mod noF w w':=by
 subst hci;have hil:i<l.length:=(List.getElem?_eq_some_iff.1 hi).1;have hq:=(Mod.refl noF w).alloc (refBox i r);have R1:=R.keep0 hq;have E1:=E.keep hq;have hnew:=heap_alloc_new w (refBox i r);obtain ⟨w1,hw1⟩:∃w1,w.alloc (refBox i r)=w1:=⟨_,rfl⟩;rw[hw1]at hq R1 E1 hnew;obtain ⟨hb,hg⟩:=R1.lt
 obtain ⟨ka,h0⟩:=R1.slice;have hv:=E1.v6;have b0:w1.cell? ⟨w.heap.size,0,none⟩=some (.int .i64 i):=(cell_of_heap hnew 0).trans rfl;have b1:w1.cell? ⟨w.heap.size,1,none⟩=some (.int .i64 r):=(cell_of_heap hnew 1).trans rfl;have hbs:=lt_of_block hnew;obtain ⟨ht0,ht1⟩:=ht
 have hlt:(i:Int)<(l.length:Int):=by omega
 have c4:w1.cell? ⟨g,i*6+4,none⟩=some (.int .i64 x.times):=(R1.cell hi (j:=4) (by omega)).trans rfl;have c5:w1.cell? ⟨g,i*6+5,none⟩=some (.bool true):=(R1.cell hi (j:=5) (by omega)).trans (by simp[acell,hh])
 have d0:decide ((i:Int)<0)=false:=by simp
 have d1:decide (l.length≤i)=false:=by simp;omega
 have hwr:IntKind.i64.wrap (x.times - 1)=x.times - 1:=Go.IntWalk.i64_in _ (by omega)
 have hne:(x.times - 1 != r)=true:=by simp;omega
 have Hq:=Lib.hid hq;have Hw1:=Lib.hid hw1;clear R R1 E E1 hq hnew hw1
 go_enter Tryz.func119,Tryz.ntmps119
 go_wp2;rw[Hw1.out]
 go_quiet (fail)
 go_wp2
 go_quiet (fail)
 go_wp2;go_ret2;exact ⟨rfl,(Hq.out.drewN _).drewN _⟩
theorem arenaAt_miss{w:World}{b g:Nat}{l:List Cell}{a:Nat→Addr}(R:AAt w b g l)(E:Errs4 w a)(hn:l.length≤64)(hts:∀(i:Nat) c,l[i]?=some c→0≤c.times∧c.times≤1000000000)(c r:Int)(h:hereIn l c r=false) :
  Calls Tryz.prog 119 #[.pointer (some ⟨b,0,none⟩),.agg #[.int .i64 c,.int .i64 r]] w fun e w'=>e=.returned (.tuple #[.pointer none,errV a 6])∧Mod noF w w':=by
 by_cases h0:c<0
 ·exact arenaAt_neg R E hn c r h0
 by_cases h1:(l.length:Int)≤c
 ·exact arenaAt_big R E hn c r h1
 obtain ⟨i,rfl⟩:=Int.eq_ofNat_of_zero_le (show 0≤c by omega);obtain ⟨x,hx⟩:∃x,l[i]?=some x:=⟨_,List.getElem?_eq_getElem (by omega)⟩;unfold hereIn cellAt at h;rw[if_neg h0,Int.toNat_natCast,hx]at h
 cases hh:x.here with
 |false=>exact arenaAt_gone R E hn i r rfl hx hh
 |true=>
  refine arenaAt_old R E hn i r rfl hx hh (hts i x hx) ?_
  simpa[hh]using h
end Go.Proofs.YtciaficoeajeaaaGreatDoor
