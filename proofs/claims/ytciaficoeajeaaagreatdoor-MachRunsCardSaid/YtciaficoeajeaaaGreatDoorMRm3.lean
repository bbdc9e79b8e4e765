/- Texts that belong together, joined. -/
import Derived.Test.YtciaficoeajeaaaGreatDoorProg
import Derived.WalkKit
import Derived.LaidEql
import Derived.Stop.Asserts
import Derived.RowKitTokens
import Derived.Deep.QuietTactic
import Derived.BigQuiet
import Derived.Lib.Hide
import Derived.Test.YtciaficoeajeaaaGreatDoorMRm2
import Derived.BigRegion
import Derived.Outline
import Derived.Test.YtciaficoeajeaaaGreatDoorMRModel
import Derived.Deep.LoopGhost
import Derived.WalkSpells
import Derived.WalkLawsBesides
import Derived.RowKit
import Derived.IntWalk
import Derived.Test.YtciaficoeajeaaaGreatDoorRows
import Derived.ProofKit
import Derived.OpenShut
import Derived.Deep.Slices
import Derived.JoinedOf
import Derived.KernelRfl
import Derived.LaidLaws
import Derived.LaidHandle
import Derived.ChangeSame
import Derived.ChangeVars
import Derived.Stop.Joined
set_option linter.unusedVariables false
set_option linter.unusedSimpArgs false
set_option linter.unusedSectionVars false
set_option maxHeartbeats 2000000
set_option maxRecDepth 100000
namespace Go.Proofs.YtciaficoeajeaaaGreatDoor
section
open Go.RowKit Go.Extern.Stop Go.Stop Go.Extern
theorem isTypeOf(v:Value)(w:World):(callFunc 101 #[.iface 241 v]).run Tryz.prog w=.ok (Next.value (.iface 206 (.agg #[.pointer (some ⟨10,241,none⟩)]))) w:=by kernel_rfl
theorem isComparable(w:World):(callFunc 162 #[.agg #[.pointer (some ⟨10,241,none⟩)]]).run Tryz.prog w=.ok (Next.value (.bool true)) w:=by kernel_rfl
theorem isMethodComparable (v : Value) (w : World) : (Go.method 373 206 v "Comparable").run Tryz.prog w = .ok (162, v) w := by kernel_rfl
theorem isComp:(Tryz.prog.info? 241).map (·.comparable)=some true:=by kernel_rfl
theorem isSize:(Tryz.prog.info? 261).map (·.size)=some 1:=by kernel_rfl
theorem noIsE(v:Value)(xT:TypeId)(w:World):(Instr.typeAssert (.iface 241 v) xT 228 true).run Tryz.prog w=.ok (.tuple #[.nilIface,.bool false]) w:=run_typeAssert_lacksB Tryz.underlying228 (by kernel_rfl) (by kernel_rfl) v xT w
theorem noUnwrapE(v:Value)(xT:TypeId)(w:World):(Instr.typeAssert (.iface 241 v) xT 213 true).run Tryz.prog w=.ok (.tuple #[.nilIface,.bool false]) w:=run_typeAssert_lacksB Tryz.underlying213 (by kernel_rfl) (by kernel_rfl) v xT w
theorem noUnwrapsE(v:Value)(xT:TypeId)(w:World):(Instr.typeAssert (.iface 241 v) xT 215 true).run Tryz.prog w=.ok (.tuple #[.nilIface,.bool false]) w:=run_typeAssert_lacksB Tryz.underlying215 (by kernel_rfl) (by kernel_rfl) v xT w
theorem is_same(a:Addr)(w:World) :
  Calls Tryz.prog 58 #[.iface 241 (.pointer (some a)),.iface 241 (.pointer (some a))] w fun e w'=>e=.returned (.bool true)∧w'=w:=by
 obtain ⟨i,hi,hcmp⟩:=Option.map_eq_some_iff.1 isComp;obtain ⟨j,hj,hjs⟩:=Option.map_eq_some_iff.1 isSize;have tT:=isTypeOf;have cT:=isComparable;have mR:=isMethodComparable;have heq:=run_eql_iface_ptr_same (P:=Tryz.prog) w a Tryz.underlying31 Tryz.underlying241 hi hcmp hj
 go_enter Tryz.func58,Tryz.ntmps58
 go_wp2;refine wp_loop_rounds 1 ?_;rw[rounds_succ];go_wp2;go_ret;exact ⟨rfl,rfl⟩
theorem is_other(a b:Addr)(ca cb:Array Value)(ta tb:TypeId)(w:World)(hne:a≠b)(ha:w.heap[a.block]?=some (.cells ca ta (0,0)))(hb:w.heap[b.block]?=some (.cells cb tb (0,0))) :
  Calls Tryz.prog 58 #[.iface 241 (.pointer (some a)),.iface 241 (.pointer (some b))] w fun e w'=>e=.returned (.bool false)∧w'=w:=by
 obtain ⟨i,hi,hcmp⟩:=Option.map_eq_some_iff.1 isComp;obtain ⟨j,hj,hjs⟩:=Option.map_eq_some_iff.1 isSize;have tT:=isTypeOf;have cT:=isComparable;have mR:=isMethodComparable;have nE:=noIsE;have uE:=noUnwrapE;have vE:=noUnwrapsE
 have heq:=run_eql_iface_ptr_other (P:=Tryz.prog) w Tryz.underlying31 Tryz.underlying241 hi hcmp hj (by rw[hjs];decide) hne ha hb
 go_enter Tryz.func58,Tryz.ntmps58
 go_wp2;refine wp_loop_rounds 1 ?_;rw[rounds_succ];go_wp2;go_ret;exact ⟨rfl,rfl⟩
end
section
open Go.RowKit Qs Qh
def ty:Ty:={mach:=53,mem:=117,cell:=113,waits:=127,thr:=48,mark:=132,int:=3,wait:=179,instr:=73}
theorem here_low(b bc n cap:Nat)(c g:Int)(w:World)(h0:w.cell? ⟨b,0,none⟩=some (.slice (some ⟨bc,0,none⟩) n cap))(hb:b<w.heap.size)
  (hc:c<0) :
  Calls Tryz.prog 97 #[.pointer (some ⟨b,0,none⟩),.agg #[.int .i64 c,.int .i64 g]] w fun e w'=>e=.returned (.bool false)∧Mod noF w w':=by
 have hd:decide (c<0)=true:=by simpa using hc
 go_enter Tryz.func97,Tryz.ntmps97
 go_wp2
 all_goals (try go_quiet (fail))
 all_goals go_wp2
 go_ret;exact ⟨rfl,((Mod.refl _ _).alloc _).drewN _⟩
theorem here_high(b bc n cap:Nat)(c g:Int)(w:World)(h0:w.cell? ⟨b,0,none⟩=some (.slice (some ⟨bc,0,none⟩) n cap))(hb:b<w.heap.size)
  (hc:0≤c) (hn:n≤c) :
  Calls Tryz.prog 97 #[.pointer (some ⟨b,0,none⟩),.agg #[.int .i64 c,.int .i64 g]] w fun e w'=>e=.returned (.bool false)∧Mod noF w w':=by
 have hd:decide (c<0)=false:=by simpa using hc
 have hd2:decide ((n:Int)≤c)=true:=by simpa using hn
 go_enter Tryz.func97,Tryz.ntmps97
 go_wp2
 all_goals (try go_quiet (fail))
 all_goals go_wp2
 go_ret;exact ⟨rfl,((Mod.refl _ _).alloc _).drewN _⟩
theorem here_in(b bc n cap:Nat)(c:Nat)(g times:Int)(hr:Bool)(wa:Option Addr)(wl wc:Nat)(w:World)(h0:w.cell? ⟨b,0,none⟩=some (.slice (some ⟨bc,0,none⟩) n cap))(hb:b<w.heap.size)(hbc:bc<w.heap.size)(hn:n≤64)
  (hc:c<n) (e0:w.cell? ⟨bc,c*3,none⟩=some (.slice wa wl wc)) (e1:w.cell? ⟨bc,c*3+1,none⟩=some (.int .i64 times)) (e2:w.cell? ⟨bc,c*3+2,none⟩=some (.bool hr)) (ht:0≤times) (ht2:times≤1000000000000) :
  Calls Tryz.prog 97 #[.pointer (some ⟨b,0,none⟩),.agg #[.int .i64 c,.int .i64 g]] w fun e w'=>e=.returned (.bool (hr&&decide (g=times - 1)))∧Mod noF w w':=by
 have hd:decide ((c:Int)<0)=false:=by simp
 have hd2:decide ((n:Int)≤(c:Int))=false:=by simp;omega
 cases hr
 all_goals
  go_enter Tryz.func97,Tryz.ntmps97
  go_wp2
  all_goals (try go_quiet (fail))
  all_goals (try go_wp2)
  go_region
  all_goals go_wp2
  go_ret
 ·exact ⟨rfl,(((Mod.refl _ _).alloc _).drewN _).alloc _⟩
 ·exact ⟨rfl,(((Mod.refl _ _).alloc _).drewN _).alloc _⟩
variable {K:Nat→Bool}{w:World}{L:Lay}{m:M}{N:Int}
theorem here_any(R:Rep ty K w L m)(h1:K 1=true)(h2:K 2=true)(om:OkM N m)(ol:OkL L m)(hN:N≤1000000000000)(c g:Int) :
  Calls Tryz.prog 97 #[.pointer (some ⟨L.blk 1 0,0,none⟩),.agg #[.int .i64 c,.int .i64 g]] w fun e w'=>e=.returned (.bool (hereIn m.cells c g))∧Mod noF w w':=by
 have hb:=R.lt1 h1;have h0:=R.cells_at h1 ol
 by_cases hc:c<0
 ·have e:hereIn m.cells c g=false:=by simp[hereIn,cellAt,hc]
  rw[e];exact here_low _ _ _ _ c g w h0 hb hc
 ·by_cases hn:(m.cells.length:Int)≤c
  ·have e:hereIn m.cells c g=false:=by
    simp only[hereIn,cellAt,if_neg hc];rw[List.getElem?_eq_none (by omega)]
   rw[e];exact here_high _ _ _ _ c g w h0 hb (by omega) hn
  ·obtain ⟨k,rfl⟩:=Int.eq_ofNat_of_zero_le (show 0≤c by omega)
   have hk:k<m.cells.length:=by omega
   have hx:m.cells[k]?=some m.cells[k]:=List.getElem?_eq_getElem hk
   have e:hereIn m.cells (k:Int) g=(m.cells[k].here&&decide (g=m.cells[k].times - 1)):=by
    simp only[hereIn,cellAt,if_neg hc,Int.toNat_natCast,hx]
   rw[e];obtain ⟨e0,e1,e2⟩:=R.cell_at h2 ol hx;obtain ⟨t0,t1⟩:=om.times k _ hx;exact here_in _ _ _ _ k g _ _ _ _ _ w h0 hb (R.lt2 h2 ol) om.cells hk e0 e1 e2 t0 (by omega)
end
section
open Go.RowKit Qs Qh
theorem cellInfo:(Tryz.prog.info? 113).map (fun i=>(i.zero,i.size,i.bytes))=some (some (.agg #[.slice none 0 0,.int .i64 0,.bool false]),3,40):=by kernel_rfl
theorem wrowInfo:(Tryz.prog.info? 127).map (fun i=>(i.zero,i.size,i.bytes))=some (some (.slice none 0 0),1,24):=by kernel_rfl
theorem make_cells(n:Nat)(hn:n≤64)(w:World):(Instr.makeSlice 114 (.int .i64 n) (.int .i64 n)).run Tryz.prog w=.ok (.slice (some ⟨w.heap.size,0,none⟩) n n) (w.alloc (.cells (newArr 0 n 0).toArray 113)):=by
 obtain ⟨i,hi,hz0,hz1,hz2⟩:=info_parts cellInfo;have:=run_makeSlice (P:=Tryz.prog) w 114 113 i _ Tryz.underlying114 hi hz0 .i64 .i64 n n (by omega) (by omega) (by rw[hz1];simp;omega) (by rw[hz2];omega) (by omega);rw[this,hz1]
 have e:(madeCells (Value.agg #[.slice none 0 0,.int .i64 0,.bool false]).cells (n*3))=(newArr 0 n 0).toArray:=by
  rw[←newArr_zero 0 n];simp[Value.cells]
 simp only[Int.toNat_natCast];rw[e]
theorem make_waits(n:Nat)(hn:n≤64)(w:World):(Instr.makeSlice 115 (.int .i64 n) (.int .i64 n)).run Tryz.prog w=.ok (.slice (some ⟨w.heap.size,0,none⟩) n n) (w.alloc (.cells (List.replicate n (.slice none 0 0)).toArray 127)):=by
 obtain ⟨i,hi,hz0,hz1,hz2⟩:=info_parts wrowInfo;have:=run_makeSlice (P:=Tryz.prog) w 115 127 i _ Tryz.underlying115 hi hz0 .i64 .i64 n n (by omega) (by omega) (by rw[hz1];simp;omega) (by rw[hz2];omega) (by omega);rw[this,hz1]
 have e:(madeCells (Value.slice none 0 0).cells (n*1))=(List.replicate n (.slice none 0 0)).toArray:=by
  rw[←toList_madeCells_one];simp[Value.cells]
 simp only[Int.toNat_natCast];rw[e]
theorem newArr_zero_any(B B' n:Nat):newArr B n 0=newArr B' n 0:=by rw[←newArr_zero,←newArr_zero]
structure NewRel(w:World)(n t bm bc bw k:Nat)(wr:World):Prop where
 size:wr.heap.size=w.heap.size+3+k
 mem:wr.heap[bm]?=some (.cells #[.slice (some ⟨bc,0,none⟩) n n,.slice (some ⟨bw,0,none⟩) t t] 117 (0,0))
 cells:wr.heap[bc]?=some (.cells (newArr (w.heap.size+3) n k).toArray 113 (0,0))
 waits:wr.heap[bw]?=some (.cells (List.replicate t (.slice none 0 0)).toArray 127 (0,0))
 words:∀i,i<k→wr.heap[w.heap.size+3+i]?=some (.cells #[.int .i64 0,.int .i64 0,.int .i64 0,.int .i64 0] 3 (0,0))
 below:Below w.heap.size w wr
theorem NewRel.next{w wr:World}{n t bm bc bw k:Nat}(h:NewRel w n t bm bc bw k wr)(hk:k<n)(h2:bc<w.heap.size+3)(hB:w.heap.size≤bc)(h12:bm≠bc)(h23:bc≠bw)(h1:bm<w.heap.size+3)(h3:bw<w.heap.size+3) :
  NewRel w n t bm bc bw (k+1) ((wr.setCell ⟨bc,k*3,none⟩ (.slice (some ⟨wr.heap.size,0,none⟩) 4 4)).alloc (.cells #[.int .i64 0,.int .i64 0,.int .i64 0,.int .i64 0] 3)):=by
 have hs:=h.size
 have hss:(wr.setCell ⟨bc,k*3,none⟩ (.slice (some ⟨wr.heap.size,0,none⟩) 4 4)).heap.size=wr.heap.size:=by simp[World.setCell]
 have old:∀(b:Nat) (o:Obj),(wr.setCell ⟨bc,k*3,none⟩ (.slice (some ⟨wr.heap.size,0,none⟩) 4 4)).heap[b]?=some o→((wr.setCell ⟨bc,k*3,none⟩ (.slice (some ⟨wr.heap.size,0,none⟩) 4 4)).alloc (.cells #[.int .i64 0,.int .i64 0,.int .i64 0,.int .i64 0] 3)).heap[b]?=some o:=fun b o hb=>(Below.heap_alloc _ _ b (lt_of_block hb)).trans hb
 refine ⟨by simp[World.setCell];omega,old _ _ ?_,old _ _ ?_,old _ _ ?_,?_,?_⟩
 ·rw[Qh.heap_setCell_other h12];exact h.mem
 ·rw[Qh.heap_setCell_same h.cells,newArr_succ hk];simp[hs]
 ·rw[Qh.heap_setCell_other (Ne.symm h23)];exact h.waits
 ·intro i hi
  by_cases e:i=k
  ·subst e;have:=heap_alloc_new (wr.setCell ⟨bc,i*3,none⟩ (.slice (some ⟨wr.heap.size,0,none⟩) 4 4)) (.cells #[.int .i64 0,.int .i64 0,.int .i64 0,.int .i64 0] 3);rw[hss,hs]at this;rw[hs];exact this
  ·refine old _ _ ?_;rw[Qh.heap_setCell_other (by omega)];exact h.words i (by omega)
 ·exact (h.below.setCell hB _).alloc (by rw[hss];omega) _
theorem heap3_0(w:World)(a b c:Obj):(((w.alloc a).alloc b).alloc c).heap[w.heap.size]?=some a:=by
 have h0:=heap_alloc_new w a;have h1:=(Below.heap_alloc (w.alloc a) b _ (lt_of_block h0)).trans h0;exact (Below.heap_alloc ((w.alloc a).alloc b) c _ (lt_of_block h1)).trans h1
theorem heap3_1(w:World)(a b c:Obj):(((w.alloc a).alloc b).alloc c).heap[w.heap.size+1]?=some b:=by
 have h0:=heap_alloc_new (w.alloc a) b;have h1:=(Below.heap_alloc ((w.alloc a).alloc b) c _ (lt_of_block h0)).trans h0
 simpa using h1
theorem heap3_2(w:World)(a b c:Obj):(((w.alloc a).alloc b).alloc c).heap[w.heap.size+1+1]?=some c:=by
 have h0:=heap_alloc_new ((w.alloc a).alloc b) c
 simpa using h0
theorem NewRel.drew{w wr:World}{n t bm bc bw k:Nat}(h:NewRel w n t bm bc bw k wr):NewRel w n t bm bc bw k wr.drew:=
 ⟨h.size,h.mem,h.cells,h.waits,h.words,⟨h.below.os,h.below.tape,h.below.output,h.below.size,h.below.block⟩⟩
theorem NewRel.start{w wr:World}{n t bm bc bw:Nat}(hs:wr.heap.size=w.heap.size+3)(hm:wr.heap[bm]?=some (.cells #[.slice (some ⟨bc,0,none⟩) n n,.slice (some ⟨bw,0,none⟩) t t] 117 (0,0)))
  (hc:wr.heap[bc]?=some (.cells (newArr 0 n 0).toArray 113 (0,0))) (hw:wr.heap[bw]?=some (.cells (List.replicate t (.slice none 0 0)).toArray 127 (0,0))) (hb:Below w.heap.size w wr):NewRel w n t bm bc bw 0 wr:=
 ⟨by omega,hm,by rw[newArr_zero_any _ 0];exact hc,hw,fun i hi=>absurd hi (by omega),hb⟩
theorem newMem_any(n t:Nat)(w:World)(hn:n≤64)(ht:t≤64) :
  Calls Tryz.prog 43 #[.int .i64 n,.int .i64 t] w fun e w'=>∃bm bc bw,e=.returned (.pointer (some ⟨bm,0,none⟩))∧NewRel w n t bm bc bw n w'∧w.heap.size≤bm∧w.heap.size≤bc∧w.heap.size≤bw∧bm<w.heap.size+3∧bc<w.heap.size+3∧bw<w.heap.size+3∧bm≠bc∧bm≠bw∧bc≠bw:=by
 have hmc:=make_cells n hn;have hmw:=make_waits t ht
 have hmk:∀w:World,(Instr.makeSlice 26 (.int .i64 4) (.int .i64 4)).run Tryz.prog w=.ok (.slice (some ⟨w.heap.size,0,none⟩) 4 4) (w.alloc (.cells #[.int .i64 0,.int .i64 0,.int .i64 0,.int .i64 0] 3)):=fun _=>by kernel_rfl
 go_enter Tryz.func43,Tryz.ntmps43
 go_wp2
 go_region
 all_goals go_wp2
 ·go_loopw [6] (fun i wr=>∃k:Nat,k≤n∧i=.int .i64 k∧NewRel w n t (w.heap.size+1+1) w.heap.size (w.heap.size+1) k wr) (fun i _=>n - (intOf i).toNat)
  case atStart=>
   refine ⟨0,Nat.zero_le _,rfl,?_⟩;refine NewRel.start (by simp) ?_ ?_ ?_ ?_
   ·exact heap3_2 w _ _ _
   ·exact heap3_0 w _ _ _
   ·exact heap3_1 w _ _ _
   ·exact ((((Mod.refl noF w).alloc _).alloc _).alloc _).drew.toBelow
  case round=>
   rename_i wr
   obtain ⟨k,hk,rfl,hrel⟩:=hrel;have hs:=hrel.size;have hb1:=lt_of_block hrel.mem;have hb2:=lt_of_block hrel.cells
   have m0:wr.cell? ⟨w.heap.size+1+1,0,none⟩=some (.slice (some ⟨w.heap.size,0,none⟩) n n):=by rw[cell_of_heap hrel.mem];rfl
   have HR:=Lib.hid hrel;have Hs:=Lib.hid hs
   by_cases hlt:k<n
   ·have hd:decide ((k:Int)<(n:Int))=true:=by simp;omega
    have c0:wr.cell? ⟨w.heap.size,k*3,none⟩=some (.slice none 0 0):=by
     rw[cell_of_heap hrel.cells];have:=flat_get newV 3 (fun _ _=>rfl) (j:=0) (by omega) (newE (w.heap.size+3) n k) 0 k none (by rw[newE_get hlt];simp) [];rw[List.append_nil]at this
     simpa[newArr,newV]using this
    have f0:=free_of_heap hrel.cells (k*3);clear hrel hs;go_wp2
    go_region
    all_goals go_wp2
    all_goals
     go_roundw
     case rel=>exact ⟨k+1,by omega,by go_num,(HR.out.next hlt (by omega) (by omega) (by omega) (by omega) (by omega) (by omega)).drew⟩
     case measure=>simp[intOf];omega
   ·have hd:decide ((k:Int)<(n:Int))=false:=by simp;omega
    obtain rfl:k=n:=by omega
    clear hrel hs;go_wp2;go_ret;exact ⟨_,w.heap.size,(w.heap.size+1),rfl,HR.out,by omega,by omega,by omega,by omega,by omega,by omega,by omega,by omega,by omega⟩
 ·go_loopw [6] (fun i wr=>∃k:Nat,k≤n∧i=.int .i64 k∧NewRel w n t (w.heap.size+1+1) (w.heap.size+1) w.heap.size k wr) (fun i _=>n - (intOf i).toNat)
  case atStart=>
   refine ⟨0,Nat.zero_le _,rfl,?_⟩;refine NewRel.start (by simp) ?_ ?_ ?_ ?_
   ·exact heap3_2 w _ _ _
   ·exact heap3_1 w _ _ _
   ·exact heap3_0 w _ _ _
   ·exact ((((Mod.refl noF w).alloc _).alloc _).alloc _).drew.toBelow
  case round=>
   rename_i wr
   obtain ⟨k,hk,rfl,hrel⟩:=hrel;have hs:=hrel.size;have hb1:=lt_of_block hrel.mem;have hb2:=lt_of_block hrel.cells
   have m0:wr.cell? ⟨w.heap.size+1+1,0,none⟩=some (.slice (some ⟨(w.heap.size+1),0,none⟩) n n):=by rw[cell_of_heap hrel.mem];rfl
   have HR:=Lib.hid hrel;have Hs:=Lib.hid hs
   by_cases hlt:k<n
   ·have hd:decide ((k:Int)<(n:Int))=true:=by simp;omega
    have c0:wr.cell? ⟨(w.heap.size+1),k*3,none⟩=some (.slice none 0 0):=by
     rw[cell_of_heap hrel.cells];have:=flat_get newV 3 (fun _ _=>rfl) (j:=0) (by omega) (newE (w.heap.size+3) n k) 0 k none (by rw[newE_get hlt];simp) [];rw[List.append_nil]at this
     simpa[newArr,newV]using this
    have f0:=free_of_heap hrel.cells (k*3);clear hrel hs;go_wp2
    go_region
    all_goals go_wp2
    all_goals
     go_roundw
     case rel=>exact ⟨k+1,by omega,by go_num,(HR.out.next hlt (by omega) (by omega) (by omega) (by omega) (by omega) (by omega)).drew⟩
     case measure=>simp[intOf];omega
   ·have hd:decide ((k:Int)<(n:Int))=false:=by simp;omega
    obtain rfl:k=n:=by omega
    clear hrel hs;go_wp2;go_ret;exact ⟨_,(w.heap.size+1),w.heap.size,rfl,HR.out,by omega,by omega,by omega,by omega,by omega,by omega,by omega,by omega,by omega⟩
end
section
open Go.RowKit Qs Qh
theorem right_any(n:Int)(w:World):Calls Tryz.prog 78 #[.int .i64 n] w fun e w'=>e=.returned (.bool (isWord n))∧w=w':=by
 by_cases h0:0≤n
 ·by_cases h1:n<4294967296
  ·have e:isWord n=true:=by simp[isWord,W32,h0,h1]
   have d0:decide (0≤n)=true:=by simpa using h0
   have d1:decide (n≤4294967295)=true:=by simp;omega
   rw[e]
   go_enter Tryz.func78,Tryz.ntmps78
   go_wp2;go_ret;exact ⟨rfl,rfl⟩
  ·have e:isWord n=false:=by simp[isWord,W32,h1]
   have d0:decide (0≤n)=true:=by simpa using h0
   have d1:decide (n≤4294967295)=false:=by simp;omega
   rw[e]
   go_enter Tryz.func78,Tryz.ntmps78
   go_wp2;go_ret;exact ⟨rfl,rfl⟩
 ·have e:isWord n=false:=by simp[isWord,h0]
  have d0:decide (0≤n)=false:=by simpa using h0
  rw[e]
  go_enter Tryz.func78,Tryz.ntmps78
  go_wp2;go_ret;exact ⟨rfl,rfl⟩
end
section
open Go.RowKit Qs Qh
theorem isWord_any(n:Int)(w:World) :
  Calls Tryz.prog 99 #[.int .i64 n] w fun e w'=>e=.returned (.bool (isWord n))∧w=w':=by
 by_cases h0:0≤n
 ·by_cases h1:n<4294967296
  ·have e:isWord n=true:=by simp[isWord,W32,h0,h1]
   have d0:decide (0≤n)=true:=by simpa using h0
   have d1:decide (n<4294967296)=true:=by simpa using h1
   rw[e]
   go_enter Tryz.func99,Tryz.ntmps99
   go_wp2;go_ret;exact ⟨rfl,rfl⟩
  ·have e:isWord n=false:=by simp[isWord,W32];omega
   have d0:decide (0≤n)=true:=by simpa using h0
   have d1:decide (n<4294967296)=false:=by simpa using h1
   rw[e]
   go_enter Tryz.func99,Tryz.ntmps99
   go_wp2;go_ret;exact ⟨rfl,rfl⟩
 ·have e:isWord n=false:=by simp[isWord,h0]
  have d0:decide (0≤n)=false:=by simpa using h0
  rw[e]
  go_enter Tryz.func99,Tryz.ntmps99
  go_wp2;go_ret;exact ⟨rfl,rfl⟩
def refV(n:Int):Int × Int × Int:=match refOf n with|some (c,g)=>(c,g,0)|none=>(0,0,if n=0 then 5 else 2)
theorem refOf_any(n:Int)(w:World)(hlo : -9223372036854775808≤n)(hhi:n≤9223372036854775807) :
  Calls Tryz.prog 96 #[.int .i64 n] w fun e w'=>e=.returned (.tuple #[.agg #[.int .i64 (refV n).1,.int .i64 (refV n).2.1],.int .i64 (refV n).2.2])∧Mod noF w w':=by
 by_cases h0:n=0
 ·subst h0
  go_enter Tryz.func96,Tryz.ntmps96
  go_wp2;refine bodyPost_ret (v:=.tuple #[.agg #[.int .i64 0,.int .i64 0],.int .i64 5]) (by simp[results,Tryz.results96,go_sem]) rfl ⟨rfl,(Mod.refl _ _).alloc _⟩
 ·have d0:(n==0)=false:=by simpa using h0
  cases hw:isWord n with
  |false=>
   have e:refV n=(0,0,2):=by simp[refV,refOf,h0,hw]
   rw[e];have Hw:=Lib.hid hw;clear hw
   go_enter Tryz.func96,Tryz.ntmps96
   go_wp2_with (go_at_call 99;refine (isWord_any _ _).mono ?_;rintro e w' ⟨rfl,rfl⟩;rw[Hw.out])
   refine bodyPost_ret (v:=.tuple #[.agg #[.int .i64 0,.int .i64 0],.int .i64 2]) (by simp[results,Tryz.results96,go_sem]) rfl ⟨rfl,(Mod.refl _ _).alloc _⟩
  |true=>
   have e:refV n=((n - 1) % 64,(n - 1)/64,0):=by simp[refV,refOf,h0,hw]
   have hb:0≤n∧n<4294967296:=by simpa[isWord,W32]using hw
   obtain ⟨b0,b1⟩:=hb
   have b2:0≤n - 1:=by omega
   rw[e];have Hw:=Lib.hid hw;clear hw
   go_enter Tryz.func96,Tryz.ntmps96
   go_wp2_with (go_at_call 99;refine (isWord_any _ _).mono ?_;rintro e w' ⟨rfl,rfl⟩;rw[Hw.out])
   refine bodyPost_ret (v:=.tuple #[.agg #[.int .i64 ((n - 1) % 64),.int .i64 ((n - 1)/64)],.int .i64 0]) (by simp[results,Tryz.results96,go_sem]) rfl ⟨rfl,(Mod.refl _ _).alloc _⟩
def wordV(c g:Int):Int × Int:=if 0≤c∧c<64∧0≤g∧g≤67108864∧isWord (g*64+c+1)then (g*64+c+1,0)else (0,2)
theorem wordOf_any(c g:Int)(w:World)(hg : -1000000000000≤g)(hg2:g≤1000000000000) :
  Calls Tryz.prog 55 #[.agg #[.int .i64 c,.int .i64 g]] w fun e w'=>e=.returned (.tuple #[.int .i64 (wordV c g).1,.int .i64 (wordV c g).2])∧Mod noF w w':=by
 by_cases h:0≤c∧c<64∧0≤g∧g≤67108864
 ·obtain ⟨c0,c1,g0,g1⟩:=h
  have d0:decide (c<0)=false:=by simpa using c0
  have d1:decide (64≤c)=false:=by simp;omega
  have d2:decide (g<0)=false:=by simpa using g0
  have d3:decide (67108864<g)=false:=by simp;omega
  cases hw:isWord (g*64+c+1)with
  |false=>
   have e:wordV c g=(0,2):=by simp[wordV,hw]
   rw[e];have Hw:=Lib.hid hw;clear hw
   go_enter Tryz.func55,Tryz.ntmps55
   go_wp2_with (go_at_call 99;refine (isWord_any _ _).mono ?_;rintro e w' ⟨rfl,rfl⟩;rw[Hw.out])
   go_ret2;exact ⟨rfl,(Mod.refl _ _).alloc _⟩
  |true=>
   have e:wordV c g=(g*64+c+1,0):=by simp[wordV,hw,c0,c1,g0,g1]
   rw[e];have Hw:=Lib.hid hw;clear hw
   go_enter Tryz.func55,Tryz.ntmps55
   go_wp2_with (go_at_call 99;refine (isWord_any _ _).mono ?_;rintro e w' ⟨rfl,rfl⟩;rw[Hw.out])
   go_ret2;exact ⟨rfl,(Mod.refl _ _).alloc _⟩
 ·have e:wordV c g=(0,2):=by simp only[wordV];rw[if_neg (fun hh=>h ⟨hh.1,hh.2.1,hh.2.2.1,hh.2.2.2.1⟩)]
  rw[e]
  by_cases c0:c<0
  ·have d0:decide (c<0)=true:=by simpa using c0
   go_enter Tryz.func55,Tryz.ntmps55
   go_wp2;go_ret2;exact ⟨rfl,(Mod.refl _ _).alloc _⟩
  ·have d0:decide (c<0)=false:=by simpa using c0
   by_cases c1:64≤c
   ·have d1:decide (64≤c)=true:=by simpa using c1
    go_enter Tryz.func55,Tryz.ntmps55
    go_wp2;go_ret2;exact ⟨rfl,(Mod.refl _ _).alloc _⟩
   ·have d1:decide (64≤c)=false:=by simpa using c1
    by_cases g0:g<0
    ·have d2:decide (g<0)=true:=by simpa using g0
     go_enter Tryz.func55,Tryz.ntmps55
     go_wp2;go_ret2;exact ⟨rfl,(Mod.refl _ _).alloc _⟩
    ·have d2:decide (g<0)=false:=by simpa using g0
     have d3:decide (67108864<g)=true:=by simp;omega
     go_enter Tryz.func55,Tryz.ntmps55
     go_wp2;go_ret2;exact ⟨rfl,(Mod.refl _ _).alloc _⟩
end
section
open Go.RowKit Qs Qh
theorem name_any(s:ByteArray)(w:World)(hs:s.size≤maxLen) :
  Calls Tryz.prog 116 #[.string s] w fun e w'=>e=.returned (.bool (nameB s.data.toList))∧w=w':=by
 unfold maxLen at hs
 by_cases h0:s.size=0
 ·have e0:s.toList=[]:=by rw[Lib.toList_data];exact List.length_eq_zero_iff.1 (by rw[bytes_len];exact h0)
  have e1:s.toList.isEmpty=true:=by rw[e0];rfl
  have e2:nameB s.data.toList=false:=by rw[←Lib.toList_data,e0];rfl
  rw[e2];clear e2 h0
  go_enter Tryz.func116,Tryz.ntmps116
  go_wp2;go_ret;exact ⟨rfl,rfl⟩
 ·have hp:0<s.size:=by omega
  have e1:s.toList.isEmpty=false:=by
   rw[Lib.toList_data]
   cases h:s.data.toList with
   |nil=>have:=bytes_len s;rw[h]at this;simp at this;omega
   |cons _ _=>rfl
  by_cases h12:12<s.size
  ·have e2:=nameB_len (l:=s.data.toList) (by rw[bytes_len];exact h12);rw[e2];clear e2 h0
   have hd:decide ((12:Int)<(s.size:Int))=true:=by simp;omega
   go_enter Tryz.func116,Tryz.ntmps116
   go_wp2;go_ret;exact ⟨rfl,rfl⟩
  ·have hd:decide ((12:Int)<(s.size:Int))=false:=by simp;omega
   have g0:=bytes_get s 0 hp
   go_enter Tryz.func116,Tryz.ntmps116
   go_wp2
   ·go_ret;refine ⟨ret_bool (nameB_first g0 ?_).symm,rfl⟩
    have:(s[0].toNat:Int)<97∨122<(s[0].toNat:Int):=by assumption
    unfold lowB;simp;omega
   ·have hlow:lowB s[0]=true:=by
     have:97≤(s[0].toNat:Int)∧(s[0].toNat:Int)≤122:=by assumption
     unfold lowB;simp;omega
    have Hlow:=Lib.hid hlow;have G0:=Lib.hid g0;clear hlow g0
    go_loop [24,3,4] (fun i _ _=>∃k:Nat,k≤s.size∧i=.int .i64 k∧∀(j:Nat) d,j<k→s.data.toList[j]?=some d→chB d=true) (fun i _ _=>s.size - (intOf i).toNat)
    case atStart=>exact ⟨0,Nat.zero_le _,rfl,fun j d hj=>absurd hj (by omega)⟩
    case round=>
     obtain ⟨k,hk,rfl,hall⟩:=hrel;have Hall:=Lib.hid hall;clear hall
     by_cases hlt:k<s.size
     ·have gk:=bytes_get s k hlt;have Gk:=Lib.hid gk;clear gk;go_wp2
      all_goals (try simp only[bne_iff_ne,ne_eq,bne_eq_false_iff_eq]at *)
      all_goals first
       | (go_round
          case rel=>exact ⟨k+1,by omega,by go_num,ch_step hlt Hall.out (chB_true (by omega))⟩
          case measure=>simp[intOf];omega)
       | (go_ret
          exact ⟨ret_bool (nameB_ch Gk.out (chB_false (by omega))).symm,rfl⟩)
     ·obtain rfl:k=s.size:=by omega
      go_wp2;go_ret;refine ⟨ret_bool (nameB_yes G0.out Hlow.out (by rw[bytes_len];omega) fun i d hd=>Hall.out i d ?_ hd).symm,rfl⟩;have:=(List.getElem?_eq_some_iff.1 hd).1;rw[bytes_len]at this;exact this
   ·go_ret;refine ⟨ret_bool (nameB_first g0 ?_).symm,rfl⟩
    have:(s[0].toNat:Int)<97:=by assumption
    unfold lowB;simp;omega
end
section
open Go.RowKit Qs Qh
variable {K:Nat→Bool}{w:World}{L:Lay}{m:M}{N:Int}
def atE(cells:List Cell)(c g wd:Int):Int:=if hereIn cells c g then (if 0≤wd∧wd<4 then 0 else 2)else 7
theorem at_any(R:Rep ty K w L m)(h1:K 1=true)(h2:K 2=true)(om:OkM N m)(ol:OkL L m)(hN:N≤1000000000000)(c g wd:Int) :
  Calls Tryz.prog 98 #[.pointer (some ⟨L.blk 1 0,0,none⟩),.agg #[.int .i64 c,.int .i64 g],.int .i64 wd] w fun e w'=>e=.returned (.int .i64 (atE m.cells c g wd))∧Mod noF w w':=by
 have HR:=Lib.hid R;have Hom:=Lib.hid om;have Hol:=Lib.hid ol;clear R om ol
 cases hh:hereIn m.cells c g with
 |false=>
  have e:atE m.cells c g wd=7:=by simp[atE,hh]
  rw[e];have Hh:=Lib.hid hh;clear hh e
  go_enter Tryz.func98,Tryz.ntmps98
  go_wp2_with fail
  refine (here_any (HR.out.frame0 ((Mod.refl _ _).alloc _)) h1 h2 Hom.out Hol.out hN c g).mono ?_;rintro e w1 ⟨rfl,hm⟩;rw[Hh.out];go_wp2;go_ret;exact ⟨rfl,((Mod.refl _ _).alloc _).trans0 hm⟩
 |true=>
  have Hh:=Lib.hid hh
  by_cases h0:0≤wd
  ·by_cases h4:wd<4
   ·have e:atE m.cells c g wd=0:=by simp[atE,hh,h0,h4]
    rw[e]
    have d0:decide (wd<0)=false:=by simpa using h0
    have d1:decide (4≤wd)=false:=by simpa using h4
    clear hh e
    go_enter Tryz.func98,Tryz.ntmps98
    go_wp2_with fail
    refine (here_any (HR.out.frame0 ((Mod.refl _ _).alloc _)) h1 h2 Hom.out Hol.out hN c g).mono ?_;rintro e w1 ⟨rfl,hm⟩;rw[Hh.out];go_wp2;go_ret;exact ⟨rfl,((Mod.refl _ _).alloc _).trans0 hm⟩
   ·have e:atE m.cells c g wd=2:=by simp[atE,hh,h0,h4]
    rw[e]
    have d0:decide (wd<0)=false:=by simpa using h0
    have d1:decide (4≤wd)=true:=by simpa using h4
    clear hh e
    go_enter Tryz.func98,Tryz.ntmps98
    go_wp2_with fail
    refine (here_any (HR.out.frame0 ((Mod.refl _ _).alloc _)) h1 h2 Hom.out Hol.out hN c g).mono ?_;rintro e w1 ⟨rfl,hm⟩;rw[Hh.out];go_wp2;go_ret;exact ⟨rfl,((Mod.refl _ _).alloc _).trans0 hm⟩
  ·have e:atE m.cells c g wd=2:=by simp[atE,hh,h0]
   rw[e]
   have d0:decide (wd<0)=true:=by simpa using h0
   clear hh e
   go_enter Tryz.func98,Tryz.ntmps98
   go_wp2_with fail
   refine (here_any (HR.out.frame0 ((Mod.refl _ _).alloc _)) h1 h2 Hom.out Hol.out hN c g).mono ?_;rintro e w1 ⟨rfl,hm⟩;rw[Hh.out];go_wp2;go_ret;exact ⟨rfl,((Mod.refl _ _).alloc _).trans0 hm⟩
theorem names_at{m:M}{n c g wd:Int}(h:m.names n=some (c,g))(hw:0≤wd∧wd<4):atE m.cells c g wd=0:=by
 unfold M.names at h
 cases hr:refOf n with
 |none=>rw[hr]at h;cases h
 |some p=>
  obtain ⟨a,b⟩:=p;rw[hr]at h;simp only at h
  split at h
  ·rename_i hh;cases h;unfold atE;rw[if_pos hh,if_pos hw]
  ·cases h
theorem look_take{l:List Wt}{q:Nat}{y:Wt}(c g wd v:Int)(h:l[q]?=some y):Qs.look (l.take (q+1)) c g wd v=if y.c=c∧y.g=g∧y.w=wd then y.v else Qs.look (l.take q) c g wd v:=by
 obtain ⟨hl,rfl⟩:=List.getElem?_eq_some_iff.1 h;unfold Qs.look;rw[List.take_succ_eq_append_getElem hl,List.foldl_append];rfl
theorem wait_at(R:Rep ty K w L m)(h7:K 7=true)(ol:OkL L m){t i:Nat}{l:List Wt}{x:Wt}(hl:m.waits[t]?=some l)(hx:l[i]?=some x) :
  L.nil 7 t=false∧L.blk 7 t<w.heap.size∧w.cell? ⟨L.blk 7 t,i*4,none⟩=some (.int .i64 x.c)∧w.cell? ⟨L.blk 7 t,i*4+1,none⟩=some (.int .i64 x.g)∧w.cell? ⟨L.blk 7 t,i*4+2,none⟩=some (.int .i64 x.w)∧w.cell? ⟨L.blk 7 t,i*4+3,none⟩=some (.int .i64 x.v):=by
 have hn:L.nil 7 t=false:=by
  cases h:L.nil 7 t with
  |false=>rfl
  |true=>have:=ol.n7 t l hl h;subst this;simp at hx
 have hg:=fun j (hj:j<4)=>flat_get wtVals 4 (fun _ _=>rfl) hj l 0 i x hx (L.junk 7 t);have ho:=obj7 ty hn hl;refine ⟨hn,R.lt ⟨7,t,h7,by rw[ho];rfl,rfl⟩,?_,?_,?_,?_⟩
 ·rw[R.cell h7 ho];have:=hg 0 (by omega);rw[Nat.zero_add]at this;exact this
 ·rw[R.cell h7 ho,hg 1 (by omega)];rfl
 ·rw[R.cell h7 ho,hg 2 (by omega)];rfl
 ·rw[R.cell h7 ho,hg 3 (by omega)];rfl
theorem waits_row(R:Rep ty K w L m)(h3:K 3=true)(ol:OkL L m){t:Nat}{l:List Wt}(hl:m.waits[t]?=some l):w.cell? ⟨L.blk 3 0,t,none⟩=some (L.row 7 t l.length):=by
 have hg:=flat_get (waitsVals L) 1 (fun _ _=>rfl) (j:=0) (by omega) m.waits 0 t l hl (L.junk 3 0);rw[R.cell h3 (obj3 ty m ol.n3)]
 have e:t*1+0=t:=by omega
 rw[e]at hg;rw[hg];simp[waitsVals]
theorem word_at(R:Rep ty K w L m)(h6:K 6=true)(ol:OkL L m){i j:Nat}{c:Cell}(hc:m.cells[i]?=some c)(hj:j<c.words.length):w.cell? ⟨L.blk 6 i,j,none⟩=some (.int .i64 (c.words.getD j 0)):=by
 have hi:i<m.cells.length:=(List.getElem?_eq_some_iff.1 hc).1;rw[R.cell h6 (obj6 ty (ol.n6 i hi) hc),List.getElem?_append_left (by simpa using hj)];simp[List.getD,hj,iv]
theorem load_ok(R:Rep ty K w L m)(h1:K 1=true)(h2:K 2=true)(h3:K 3=true)(h6:K 6=true)(h7:K 7=true)(om:OkM N m)(ol:OkL L m)(hN:N≤1000000000000)(t:Nat)(ht:t<m.waits.length)(c g wd:Int)(he:atE m.cells c g wd=0) :
  Calls Tryz.prog 51 #[.pointer (some ⟨L.blk 1 0,0,none⟩),.int .i64 t,.agg #[.int .i64 c,.int .i64 g],.int .i64 wd] w fun e w'=>e=.returned (.tuple #[.int .i64 (Qs.look (m.waitsOf t) c g wd (getWord m.cells c.toNat wd.toNat)),.int .i64 0])∧Mod noF w w':=by
 have hin:hereIn m.cells c g=true:=by
  cases h:hereIn m.cells c g with
  |true=>rfl
  |false=>simp[atE,h]at he
 have hwd:0≤wd∧wd<4:=by
  refine Classical.byContradiction fun h=>?_;simp only[atE,hin,if_true,if_neg h]at he;omega
 obtain ⟨x,hx,hc0⟩:∃x,m.cells[c.toNat]?=some x∧0≤c:=by
  unfold hereIn cellAt at hin
  by_cases h:c<0
  ·simp[h]at hin
  ·cases h':m.cells[c.toNat]? with
   |none=>simp[h,h']at hin
   |some x=>exact ⟨x,rfl,by omega⟩
 obtain ⟨k,rfl⟩:=Int.eq_ofNat_of_zero_le hc0;obtain ⟨j,rfl⟩:=Int.eq_ofNat_of_zero_le hwd.1;rw[Int.toNat_natCast]at hx;obtain ⟨l,hl⟩:∃l,m.waits[t]?=some l:=⟨_,List.getElem?_eq_getElem ht⟩
 have hlo:m.waitsOf t=l:=by simp[M.waitsOf,List.getD,hl]
 have hgw:getWord m.cells k j=x.words.getD j 0:=by simp[getWord,hx]
 rw[hlo,Int.toNat_natCast,Int.toNat_natCast,hgw]
 have hj4:j<x.words.length:=by rw[(om.words k x hx).1];omega
 have hl8:=om.wlen t l hl;have hk:k<m.cells.length:=(List.getElem?_eq_some_iff.1 hx).1;have hcl:=om.cells;have hwl:=om.waits;have hsp2:=ol.sp2;have hsp3:=ol.sp3;have He:=Lib.hid he;have Hx:=Lib.hid hx;have Hl:=Lib.hid hl;have HR:=Lib.hid R;have Hom:=Lib.hid om;have Hol:=Lib.hid ol
 have hx4:x.words.length=4:=(om.words k x hx).1;have Hx4:=Lib.hid hx4;clear he hx hl R om ol hlo hgw hin hx4
 go_enter Tryz.func51,Tryz.ntmps51
 go_wp2_with fail
 refine (at_any (HR.out.frame0 ((Mod.refl _ _).alloc _)) h1 h2 Hom.out Hol.out hN (k:Int) g (j:Int)).mono ?_;rintro e w1 ⟨rfl,hm⟩;rw[He.out];have hm1:Mod noF w w1:=((Mod.refl _ _).alloc _).trans0 hm;have hr0:w1.cell? ⟨w.heap.size,0,none⟩=some (.int .i64 k):=hm.cell (by simp) (fun e=>e)
 have hr1:w1.cell? ⟨w.heap.size,1,none⟩=some (.int .i64 g):=hm.cell (by simp) (fun e=>e)
 have hs1:w.heap.size<w1.heap.size:=by have:=hm.size;simp at this;omega
 have Hm1:=Lib.hid hm1;clear hm hm1;have R1:=HR.out.frame0 Hm1.out;have c0:=R1.cells_at h1 Hol.out;obtain ⟨c1,c2,c3⟩:=R1.cell_at h2 Hol.out Hx.out;have c4:=word_at R1 h6 Hol.out Hx.out hj4;generalize hv0:x.words.getD j 0=v0 at *;have Hv0:=Lib.hid hv0;clear R1 hv0;go_wp2
 all_goals (try go_quiet (fail))
 go_wp2
 go_loopw [11,12] (fun v i wr=>∃q:Nat,q≤l.length∧i=.int .i64 q∧v=.int .i64 (Qs.look (l.take q) k g j v0)∧Mod noF w1 wr) (fun _ i _=>l.length - (intOf i).toNat)
 case atStart=>exact ⟨0,by omega,rfl,rfl,(Mod.refl _ _).drewN _⟩
 case round=>
  rename_i wr
  obtain ⟨q,hq,rfl,rfl,hmr⟩:=hrel;have Rr:=HR.out.frame0 (Hm1.out.trans0 hmr);have d0:=Rr.waits_at h1 Hol.out;have d1:=waits_row Rr h3 Hol.out Hl.out;have d2:=hmr.cell hr0 (fun e=>e);have d3:=hmr.cell hr1 (fun e=>e)
  have hsr:w.heap.size<wr.heap.size:=by have:=hmr.size;omega
  have Hmr:=Lib.hid hmr;clear hmr
  by_cases hlt:q<l.length
  ·have hd:decide ((q:Int)<(l.length:Int))=true:=by simp;omega
   obtain ⟨y,hy⟩:∃y,l[q]?=some y:=⟨_,List.getElem?_eq_getElem hlt⟩;obtain ⟨hn,hb7,g0,g1,g2,g3⟩:=wait_at Rr h7 Hol.out Hl.out hy;rw[row_some hn]at d1;have Hy:=Lib.hid hy;clear hy hn Rr;have hlk:=look_take (k:Int) g (j:Int) v0 Hy.out;have Hlk:=Lib.hid hlk;clear hlk;go_wp2
   ·go_roundw
    case rel=>exact ⟨q+1,by omega,by go_num,by rw[Hlk.out,if_pos ⟨by assumption,by assumption,by rw[←beq_iff_eq];assumption⟩],Hmr.out.alloc _⟩
    case measure=>simp[intOf];omega
   ·go_roundw
    case rel=>exact ⟨q+1,by omega,by go_num,by rw[Hlk.out,if_neg (fun h=>WalkArith.int_ne (a:=y.w) (b:=(j:Int)) (by assumption) h.2.2)],Hmr.out.alloc _⟩
    case measure=>simp[intOf];omega
   ·go_roundw
    case rel=>exact ⟨q+1,by omega,by go_num,by rw[Hlk.out,if_neg (fun h=>absurd h.2.1 (by assumption))],Hmr.out.alloc _⟩
    case measure=>simp[intOf];omega
   ·go_roundw
    case rel=>exact ⟨q+1,by omega,by go_num,by rw[Hlk.out,if_neg (fun h=>absurd h.1 (by assumption))],Hmr.out.alloc _⟩
    case measure=>simp[intOf];omega
  ·have hd:decide ((q:Int)<(l.length:Int))=false:=by simp;omega
   obtain rfl:q=l.length:=by omega
   have htk:l.take l.length=l:=List.take_length;rw[htk]
   have hd1:∃a b c,L.row 7 t l.length=.slice a b c∧b=l.length:=by
    unfold Lay.row
    cases h:L.nil 7 t with
    |true=>exact ⟨none,0,0,rfl,by rw[Hol.out.n7 t l Hl.out h];rfl⟩
    |false=>exact ⟨_,_,_,rfl,rfl⟩
   obtain ⟨sa,sb,sc,e1,rfl⟩:=hd1;rw[e1]at d1;clear Rr e1 htk;go_wp2;go_ret2;exact ⟨ret_pair (by rw[Hv0.out]),Hm1.out.trans0 Hmr.out⟩
end
section
open Go.RowKit Qs Qh
variable {w:World}{L:Lay}{m:M}{N:Int}
def labE(to:List UInt8)(l:List Instr):Int:=match labelAt to l 0 with|some i=>(i:Int)|none=>-1
theorem drop_at{l:List Instr}{q:Nat}{x:Instr}(h:l[q]?=some x):l.drop q=x :: l.drop (q+1):=by
 obtain ⟨hl,rfl⟩:=List.getElem?_eq_some_iff.1 h;exact List.drop_eq_getElem_cons hl
theorem labelAt_any(a:Option Addr)(c:Nat)(l:List Instr)(to:List UInt8)(w:World)(hl:l.length≤1000000)
  (hx:∀(i:Nat) x,l[i]?=some x→∃b off,a=some ⟨b,off,none⟩∧b<w.heap.size∧∀j y,(instrVals x)[j]?=some y→w.cell? ⟨b,off+i*5+j,none⟩=some y) :
  Calls Tryz.prog 56 #[.slice a l.length c,sv to] w fun e w'=>e=.returned (.int .i64 (labE to l))∧w=w':=by
 have Hx:=Lib.hid hx;clear hx;generalize hto:(⟨to.toArray⟩:ByteArray)=tb;have Hto:=Lib.hid hto;unfold sv;rw[hto];clear hto
 go_enter Tryz.func56,Tryz.ntmps56
 go_wp2
 go_loopg [5] l.length (fun k i wr=>wr=w∧∃q:Nat,q+k=l.length∧i=.int .i64 q∧labelAt to l 0=labelAt to (l.drop q) q)
 case atStart=>exact ⟨rfl,0,by omega,rfl,rfl⟩
 case round=>
  obtain ⟨rfl,q,hq,rfl,hla⟩:=hrel;have Hla:=Lib.hid hla;clear hla
  by_cases hlt:q<l.length
  ·have hd:decide ((q:Int)<(l.length:Int))=true:=by simp;omega
   obtain ⟨x,hxq⟩:∃x,l[q]?=some x:=⟨_,List.getElem?_eq_getElem hlt⟩;obtain ⟨b,off,rfl,hb,hc⟩:=Hx.out q x hxq;have c0:=hc 0 _ rfl;have c4:=hc 4 _ rfl;simp only[Nat.add_zero,sv]at c0 c4;generalize hs:opStr x.op=s at *;generalize hd4:(⟨x.to.toArray⟩:ByteArray)=d at *;have Hs:=Lib.hid hs
   have Hd4:=Lib.hid hd4;have Hxq:=Lib.hid hxq;clear hs hd4 hxq hc;go_wp2
   ·go_ret;have h1:x.op=17:=(opStr_label x.op).1 (by rw[Hs.out];assumption)
    have h2:x.to=to:=by
     have h:(d.toList==tb.toList)=true:=by assumption
     rw[←Hd4.out,←Hto.out,bytes_list,bytes_list]at h;exact beq_iff_eq.1 h
    refine ⟨ret_int ?_,rfl⟩;unfold labE;rw[Hla.out,drop_at Hxq.out];simp[labelAt,h1,h2]
   ·go_roundg (l.length - (q+1))
    case measure=>omega
    case rel=>
     refine ⟨rfl,q+1,by omega,by go_num,?_⟩
     have h2:¬x.to=to:=by
      have h:(d.toList==tb.toList)=false:=by assumption
      rw[←Hd4.out,←Hto.out,bytes_list,bytes_list]at h
      exact fun e=>by rw[e]at h;simp at h
     rw[Hla.out,drop_at Hxq.out];simp[labelAt,h2]
   ·go_roundg (l.length - (q+1))
    case measure=>omega
    case rel=>
     refine ⟨rfl,q+1,by omega,by go_num,?_⟩
     have h1:¬x.op=17:=fun e=>by
      have h:¬s.toList=[108,97,98,101,108]:=by assumption
      exact h (by rw[←Hs.out];exact (opStr_label x.op).2 e)
     rw[Hla.out,drop_at Hxq.out];simp[labelAt,h1]
  ·have hd:decide ((q:Int)<(l.length:Int))=false:=by simp;omega
   go_wp2;go_ret;refine ⟨ret_int ?_,rfl⟩;unfold labE;rw[Hla.out,List.drop_eq_nil_of_le (by omega)];rfl
end
section
open Go.RowKit Qs Qh
theorem names_at_drain{m:M}{n c g wd:Int}(h:m.names n=some (c,g))(hw:0≤wd∧wd<4){x:Wt}:atE (drain1 m.cells x).1 c g wd=0:=by
 have:=names_at h hw;unfold atE at this ⊢;rw[hereIn_drain];exact this
end
end Go.Proofs.YtciaficoeajeaaaGreatDoor
section
namespace Qh
open Go Go.RowKit Qs
variable {m:M}{t:Nat}{h:Thr}{a b c p:Nat}{A B C:Int}{to:List UInt8}
theorem names_setPc(m:M)(t p:Nat)(n:Int):(m.setPc t p).names n=m.names n:=rfl
theorem exec_const(hh:m.T[t]?=some h):(m.setPc t p).exec t ⟨0,a,B,C,to⟩=(m.setPc t p).setReg t a B:=rfl
theorem exec_move(hh:m.T[t]?=some h):(m.setPc t p).exec t ⟨1,a,b,C,to⟩=(m.setPc t p).setReg t a (h.regs.getD b 0):=by
 simp only[M.exec,thr_setPc hh,Thr.reg,Int.toNat_natCast]
theorem exec_add(hh:m.T[t]?=some h):(m.setPc t p).exec t ⟨2,a,b,c,to⟩=(m.setPc t p).setReg t a (sum2 2 (h.regs.getD b 0) (h.regs.getD c 0)):=by
 simp only[M.exec,thr_setPc hh,Thr.reg,Int.toNat_natCast]
theorem exec_sub(hh:m.T[t]?=some h):(m.setPc t p).exec t ⟨3,a,b,c,to⟩=(m.setPc t p).setReg t a (sum2 3 (h.regs.getD b 0) (h.regs.getD c 0)):=by
 simp only[M.exec,thr_setPc hh,Thr.reg,Int.toNat_natCast]
theorem exec_and(hh:m.T[t]?=some h):(m.setPc t p).exec t ⟨4,a,b,c,to⟩=(m.setPc t p).setReg t a (sum2 4 (h.regs.getD b 0) (h.regs.getD c 0)):=by
 simp only[M.exec,thr_setPc hh,Thr.reg,Int.toNat_natCast]
theorem exec_xor(hh:m.T[t]?=some h):(m.setPc t p).exec t ⟨5,a,b,c,to⟩=(m.setPc t p).setReg t a (sum2 5 (h.regs.getD b 0) (h.regs.getD c 0)):=by
 simp only[M.exec,thr_setPc hh,Thr.reg,Int.toNat_natCast]
theorem exec_load_ok(hh:m.T[t]?=some h){rc rg:Int}(hn:m.names (h.regs.getD b 0)=some (rc,rg)):(m.setPc t p).exec t ⟨6,a,b,C,to⟩=(m.setPc t p).setReg t a (Qs.look (m.waitsOf t) rc rg C (getWord m.cells rc.toNat C.toNat)):=by
 simp only[M.exec,thr_setPc hh,Thr.reg,Int.toNat_natCast,names_setPc,hn];rfl
theorem exec_load_none(hh:m.T[t]?=some h)(hn:m.names (h.regs.getD b 0)=none):(m.setPc t p).exec t ⟨6,a,b,C,to⟩=((m.setPc t p).fault).setReg t a 0:=by
 simp only[M.exec,thr_setPc hh,Thr.reg,Int.toNat_natCast,names_setPc,hn]
theorem exec_store_none(hh:m.T[t]?=some h)(hn:m.names (h.regs.getD a 0)=none):(m.setPc t p).exec t ⟨7,a,b,C,to⟩=(m.setPc t p).fault:=by
 simp only[M.exec,thr_setPc hh,Thr.reg,Int.toNat_natCast,names_setPc,hn]
theorem waitsOf_setPc(m:M)(t p u:Nat):(m.setPc t p).waitsOf u=m.waitsOf u:=rfl
theorem exec_store_ok(hh:m.T[t]?=some h){rc rg:Int}(hn:m.names (h.regs.getD a 0)=some (rc,rg)){l:List Wt}(hl:m.waits[t]?=some l)(h8:l.length<8) :
  (m.setPc t p).exec t ⟨7,a,b,C,to⟩=putM (m.setPc t p) t ⟨rc,rg,C,h.regs.getD b 0⟩:=by
 have hw:m.waitsOf t=l:=by simp[M.waitsOf,List.getD,hl]
 simp only[M.exec,thr_setPc hh,Thr.reg,Int.toNat_natCast,names_setPc,hn,waitsOf_setPc,hw];rw[if_neg (by omega)];rfl
theorem exec_store_full(hh:m.T[t]?=some h){rc rg:Int}(hn:m.names (h.regs.getD a 0)=some (rc,rg)){x:Wt}{r:List Wt}(hl:m.waits[t]?=some (x :: r))(h8:r.length=7)(hin:hereIn m.cells x.c x.g=true) :
  (m.setPc t p).exec t ⟨7,a,b,C,to⟩=putM {(m.setPc t p)with cells:=(drain1 m.cells x).1,waits:=m.waits.set t r} t ⟨rc,rg,C,h.regs.getD b 0⟩:=by
 have hw:m.waitsOf t=x :: r:=by simp[M.waitsOf,List.getD,hl]
 have hb:(drain1 m.cells x).2=false:=by rw[drain1_bad,hin];rfl
 simp only[M.exec,thr_setPc hh,Thr.reg,Int.toNat_natCast,names_setPc,hn,waitsOf_setPc,hw];rw[if_pos (by simp;omega)]
 have e:((m.setPc t p).drain t).1 = {(m.setPc t p)with cells:=(drain1 m.cells x).1,waits:=m.waits.set t r}:=by
  unfold M.drain;rw[waitsOf_setPc,hw];show M.mk _ _ _ _ ((m.setPc t p).faults+if (drain1 m.cells x).2=true then 1 else 0)=_;rw[hb];show M.mk _ _ _ _ ((m.setPc t p).faults+0)=_;rw[Int.add_zero];rfl
 rw[e];rfl
theorem exec_store_full_bad(hh:m.T[t]?=some h){rc rg:Int}(hn:m.names (h.regs.getD a 0)=some (rc,rg)){x:Wt}{r:List Wt}(hl:m.waits[t]?=some (x :: r))(h8:r.length=7)(hin:hereIn m.cells x.c x.g=false) :
  (m.setPc t p).exec t ⟨7,a,b,C,to⟩=putM ({(m.setPc t p)with cells:=(drain1 m.cells x).1,waits:=m.waits.set t r}:M).fault t ⟨rc,rg,C,h.regs.getD b 0⟩:=by
 have hw:m.waitsOf t=x :: r:=by simp[M.waitsOf,List.getD,hl]
 have hb:(drain1 m.cells x).2=true:=by rw[drain1_bad,hin];rfl
 simp only[M.exec,thr_setPc hh,Thr.reg,Int.toNat_natCast,names_setPc,hn,waitsOf_setPc,hw];rw[if_pos (by simp;omega)]
 have e:((m.setPc t p).drain t).1=({(m.setPc t p)with cells:=(drain1 m.cells x).1,waits:=m.waits.set t r}:M).fault:=by
  unfold M.drain;rw[waitsOf_setPc,hw];show M.mk _ _ _ _ ((m.setPc t p).faults+if (drain1 m.cells x).2=true then 1 else 0)=_;rw[hb];rfl
 rw[e];rfl
theorem exec_cas_ok(hh:m.T[t]?=some h){rc:Nat}{rg:Int}(hn:m.names (h.regs.getD a 0)=some ((rc:Int),rg)) :
  (m.setPc t p).exec t ⟨9,a,b,c,to⟩=casM ((m.setPc t p).fence t) t b rc c (h.regs.getD b 0) (h.regs.getD (b+1) 0):=by
 have e:((b:Int)+1).toNat=b+1:=by omega
 simp only[M.exec,thr_setPc hh,Thr.reg,Int.toNat_natCast,names_setPc,hn,e];rfl
theorem exec_cas_none(hh:m.T[t]?=some h)(hn:m.names (h.regs.getD a 0)=none):(m.setPc t p).exec t ⟨9,a,b,C,to⟩=((m.setPc t p).fault).setReg t b 0:=by
 simp only[M.exec,thr_setPc hh,Thr.reg,Int.toNat_natCast,names_setPc,hn]
theorem exec_fence:(m.setPc t p).exec t ⟨12,A,B,C,to⟩=(m.setPc t p).fence t:=rfl
theorem exec_zero_yes(hh:m.T[t]?=some h){i:Nat}(hi:labelAt to h.code 0=some i)(hz:h.regs.getD a 0=0):(m.setPc t p).exec t ⟨14,a,B,C,to⟩=(m.setPc t p).setPc t i:=by
 simp only[M.exec,thr_setPc hh,Thr.reg,Int.toNat_natCast,hz,if_true];exact jump_eq hh p hi
theorem exec_zero_no(hh:m.T[t]?=some h)(hz:¬h.regs.getD a 0=0):(m.setPc t p).exec t ⟨14,a,B,C,to⟩=m.setPc t p:=by
 simp only[M.exec,thr_setPc hh,Thr.reg,Int.toNat_natCast,if_neg hz]
theorem exec_same_yes(hh:m.T[t]?=some h){i:Nat}(hi:labelAt to h.code 0=some i)(hz:h.regs.getD a 0=h.regs.getD b 0):(m.setPc t p).exec t ⟨15,a,b,C,to⟩=(m.setPc t p).setPc t i:=by
 simp only[M.exec,thr_setPc hh,Thr.reg,Int.toNat_natCast,if_pos hz];exact jump_eq hh p hi
theorem exec_same_no(hh:m.T[t]?=some h)(hz:¬h.regs.getD a 0=h.regs.getD b 0):(m.setPc t p).exec t ⟨15,a,b,C,to⟩=m.setPc t p:=by
 simp only[M.exec,thr_setPc hh,Thr.reg,Int.toNat_natCast,if_neg hz]
theorem exec_goto(hh:m.T[t]?=some h){i:Nat}(hi:labelAt to h.code 0=some i):(m.setPc t p).exec t ⟨16,A,B,C,to⟩=(m.setPc t p).setPc t i:=jump_eq hh p hi
theorem exec_label:(m.setPc t p).exec t ⟨17,A,B,C,to⟩=m.setPc t p:=rfl
theorem exec_need(hh:m.T[t]?=some h):(m.setPc t p).exec t ⟨19,a,B,C,to⟩=needM m t p (h.regs.getD a 0):=by
 simp only[M.exec,thr_setPc hh,Thr.reg,Int.toNat_natCast];rfl
end Qh
end
section
namespace Qh
open Go.RowKit
theorem bit_cast(a k:Nat):((a:Int)/2 ^ k).tmod 2=((a/2 ^ k % 2:Nat):Int):=by
 rw[Int.tmod_eq_emod_of_nonneg (Int.ediv_nonneg (by omega) (Int.pow_nonneg (by omega)))];simp
theorem and_bit(a b k:Nat):(a &&& b)/2 ^ k % 2=(a/2 ^ k % 2)*(b/2 ^ k % 2):=by
 have h:=Nat.testBit_and a b k;simp only[Nat.testBit_eq_decide_div_mod_eq]at h;have h1:a/2 ^ k % 2<2:=Nat.mod_lt _ (by omega);have h2:b/2 ^ k % 2<2:=Nat.mod_lt _ (by omega);have h3:(a &&& b)/2 ^ k % 2<2:=Nat.mod_lt _ (by omega);generalize a/2 ^ k % 2=x at *;generalize b/2 ^ k % 2=y at *
 generalize (a &&& b)/2 ^ k % 2=z at *
 have hx:x=0∨x=1:=by omega
 have hy:y=0∨y=1:=by omega
 have hz:z=0∨z=1:=by omega
 rcases hx with rfl|rfl <;> rcases hy with rfl|rfl <;> rcases hz with rfl|rfl <;> simp at h ⊢
theorem xor_bit(a b k:Nat):(a ^^^ b)/2 ^ k % 2=(a/2 ^ k % 2+b/2 ^ k % 2) % 2:=by
 have h:=Nat.testBit_xor a b k;simp only[Nat.testBit_eq_decide_div_mod_eq]at h;have h1:a/2 ^ k % 2<2:=Nat.mod_lt _ (by omega);have h2:b/2 ^ k % 2<2:=Nat.mod_lt _ (by omega);have h3:(a ^^^ b)/2 ^ k % 2<2:=Nat.mod_lt _ (by omega);generalize a/2 ^ k % 2=x at *;generalize b/2 ^ k % 2=y at *
 generalize (a ^^^ b)/2 ^ k % 2=z at *
 have hx:x=0∨x=1:=by omega
 have hy:y=0∨y=1:=by omega
 have hz:z=0∨z=1:=by omega
 rcases hx with rfl|rfl <;> rcases hy with rfl|rfl <;> rcases hz with rfl|rfl <;> simp at h ⊢
theorem mod_up(x k:Nat):x % 2 ^ (k+1)=x % 2 ^ k+2 ^ k*(x/2 ^ k % 2):=Nat.mod_pow_succ
theorem wrap_small{n:Int}(h0:0≤n)(h1:n<9223372036854775808):wrap64 n=n:=by
 unfold wrap64;omega
theorem up_one{x k:Nat}(hk:k<32)(hb:x/2 ^ k % 2=1):wrap64 ((x:Int) % 2 ^ k+wrap64 (2 ^ k))=((x % 2 ^ (k+1):Nat):Int):=by
 have hp:(2:Nat) ^ k≤2 ^ 31:=Nat.pow_le_pow_right (by omega) (by omega);have hm:x % 2 ^ k<2 ^ k:=Nat.mod_lt _ (Nat.pow_pos (by omega));rw[mod_up,hb,Nat.mul_one]
 have e:((2:Int) ^ k)=((2 ^ k:Nat):Int):=by simp
 rw[e,show wrap64 ((2 ^ k:Nat):Int)=((2 ^ k:Nat):Int)from wrap_small (by omega) (by omega),show (x:Int) % ((2 ^ k:Nat):Int)=((x % 2 ^ k:Nat):Int)from by simp,wrap_small (by omega) (by omega)];simp
theorem up_none{x k:Nat}(hb:x/2 ^ k % 2=0):(x:Int) % 2 ^ k=((x % 2 ^ (k+1):Nat):Int):=by
 rw[mod_up,hb,Nat.mul_zero,Nat.add_zero];simp
theorem up_none'{x k:Nat}(hb:x/2 ^ k % 2=0):((x % 2 ^ k:Nat):Int)=((x % 2 ^ (k+1):Nat):Int):=by
 rw[mod_up,hb,Nat.mul_zero,Nat.add_zero]
theorem bit_two(a k:Nat):a/2 ^ k % 2=0∨a/2 ^ k % 2=1:=by omega
end Qh
end
namespace Go.Proofs.YtciaficoeajeaaaGreatDoor
section
open Go.RowKit Qs Qh
theorem bits_and(a b:Nat)(w:World)(ha:a<4294967296)(hb:b<4294967296) :
  Calls Tryz.prog 49 #[.string ⟨#[97,110,100]⟩,.int .i64 a,.int .i64 b] w fun e w'=>e=.returned (.int .i64 ((a &&& b:Nat):Int))∧w=w':=by
 go_enter Tryz.func49,Tryz.ntmps49
 go_wp2
 go_loop [7,8,9,10] (fun n i _ _=>∃k:Nat,k≤32∧i=.int .i64 k∧n=.int .i64 (((a &&& b) % 2 ^ k:Nat):Int)) (fun _ i _ _=>32 - (intOf i).toNat)
 case atStart=>exact ⟨0,by omega,rfl,by simp[Nat.mod_one]⟩
 case round=>
  obtain ⟨k,hk,rfl,rfl⟩:=hrel
  by_cases hlt:k<32
  ·have hd:decide ((k:Int)<32)=true:=by simp;omega
   have ea:=bit_cast a k;have eb:=bit_cast b k;have hz:=and_bit a b k
   rcases bit_two a k with xa|xa <;> rcases bit_two b k with xb|xb
   all_goals
    rw[xa]at ea hz;rw[xb]at eb hz;have Hz:=Lib.hid hz;clear hz xa xb;go_wp2
    go_round
    case rel=>exact ⟨k+1,by omega,by go_num,by first|rw[up_one hlt Hz.out]|rw[up_none Hz.out]|rw[up_none' Hz.out]⟩
    case measure=>simp[intOf];omega
  ·have hd:decide ((k:Int)<32)=false:=by simp;omega
   go_wp2;go_ret
   obtain rfl:k=32:=by omega
   exact ⟨ret_int (congrArg Nat.cast (Nat.mod_eq_of_lt (Nat.lt_of_le_of_lt Nat.and_le_left (by omega)))),rfl⟩
theorem bits_xor(a b:Nat)(w:World)(ha:a<4294967296)(hb:b<4294967296) :
  Calls Tryz.prog 49 #[.string ⟨#[120,111,114]⟩,.int .i64 a,.int .i64 b] w fun e w'=>e=.returned (.int .i64 ((a ^^^ b:Nat):Int))∧w=w':=by
 go_enter Tryz.func49,Tryz.ntmps49
 go_wp2
 go_loop [7,8,9,10] (fun n i _ _=>∃k:Nat,k≤32∧i=.int .i64 k∧n=.int .i64 (((a ^^^ b) % 2 ^ k:Nat):Int)) (fun _ i _ _=>32 - (intOf i).toNat)
 case atStart=>exact ⟨0,by omega,rfl,by simp[Nat.mod_one]⟩
 case round=>
  obtain ⟨k,hk,rfl,rfl⟩:=hrel
  by_cases hlt:k<32
  ·have hd:decide ((k:Int)<32)=true:=by simp;omega
   have ea:=bit_cast a k;have eb:=bit_cast b k;have hz:=xor_bit a b k
   rcases bit_two a k with xa|xa <;> rcases bit_two b k with xb|xb
   all_goals
    rw[xa]at ea hz;rw[xb]at eb hz;have Hz:=Lib.hid hz;clear hz xa xb;go_wp2
    go_round
    case rel=>exact ⟨k+1,by omega,by go_num,by first|rw[up_one hlt Hz.out]|rw[up_none Hz.out]|rw[up_none' Hz.out]⟩
    case measure=>simp[intOf];omega
  ·have hd:decide ((k:Int)<32)=false:=by simp;omega
   go_wp2;go_ret
   obtain rfl:k=32:=by omega
   exact ⟨ret_int (congrArg Nat.cast (Nat.mod_eq_of_lt (Nat.xor_lt_two_pow ha hb))),rfl⟩
end
section
open Go.RowKit Qs Qh
variable {K:Nat→Bool}{w:World}{L:Lay}{m:M}{N:Int}
theorem alloc_any(R:Rep ty K w L m)(h1:K 1=true)(h2:K 2=true)(h6:K 6=true)(om:OkM N m)(ol:OkL L m)(hN:N≤1000000000000) :
  Calls Tryz.prog 44 #[.pointer (some ⟨L.blk 1 0,0,none⟩)] w fun e w'=>
   (∃i n,allocAt m.cells 0=some (i,n)∧e=.returned (.tuple #[.agg #[.int .i64 i,.int .i64 n],.int .i64 0])∧Rep ty K w' (L.words i (w.heap.size+1)) {m with cells:=m.cells.set i (zeroCell (n+1))}∧Mod (fun x=>x=L.blk 2 0) w w'∧w.heap.size+1<w'.heap.size)∨
   (allocAt m.cells 0=none∧e=.returned (.tuple #[.agg #[.int .i64 0,.int .i64 0],.int .i64 6])∧Mod noF w w'):=by
 have hb:=R.lt1 h1;have hb2:=R.lt2 h2 ol;have hne:L.blk 1 0≠L.blk 2 0:=R.ne h1 h2 rfl (by rw[obj2 ty m ol.n2];rfl) (by omega);have h0:=R.cells_at h1 ol;have hcs:=fun (i:Nat) (c:Cell) (hc:m.cells[i]?=some c)=>R.cell_at h2 ol hc;have hfz:=fun j=>R.free h2 (obj2 ty m ol.n2) j;have hts:=om.times
 have hn:=om.cells;have hsp:=ol.sp2
 have hmk:∀w:World,(Instr.makeSlice 26 (.int .i64 4) (.int .i64 4)).run Tryz.prog w=.ok (.slice (some ⟨w.heap.size,0,none⟩) 4 4) (w.alloc (.cells #[.int .i64 0,.int .i64 0,.int .i64 0,.int .i64 0] 3)):=fun _=>by kernel_rfl
 have Hcs:=Lib.hid hcs;have Hts:=Lib.hid hts;have HR:=Lib.hid R;have Hom:=Lib.hid om;have Hol:=Lib.hid ol;clear hcs hts R om ol
 go_enter Tryz.func44,Tryz.ntmps44
 go_wp2
 go_loop [4] (fun i=>∃k:Nat,k≤m.cells.length∧i=.int .i64 k∧∀(j:Nat) x,j<k→m.cells[j]?=some x→x.here=true) (fun i=>m.cells.length - (intOf i).toNat)
 case atStart=>exact ⟨0,by omega,rfl,fun j x hj=>absurd hj (by omega)⟩
 case round=>
  obtain ⟨k,hk,rfl,hall⟩:=hrel;have Hall:=Lib.hid hall;clear hall
  by_cases hlt:k<m.cells.length
  ·have hd:decide ((k:Int)<(m.cells.length:Int))=true:=by simp;omega
   obtain ⟨c,hc⟩:∃c,m.cells[k]?=some c:=⟨_,List.getElem?_eq_getElem hlt⟩;obtain ⟨e0,e1,e2⟩:=Hcs.out k c hc;obtain ⟨t0,t1⟩:=Hts.out k c hc;have Hc:=Lib.hid hc;clear hc
   cases hh:c.here with
   |true=>
    rw[hh]at e2;have Hh:=Lib.hid hh;clear hh;go_wp2
    go_round
    case rel=>
     refine ⟨k+1,by omega,by go_num,fun j x hj hx=>?_⟩
     by_cases e:j=k
     ·subst e;rw[Hc.out]at hx;cases hx;exact Hh.out
     ·exact Hall.out j x (by omega) hx
    case measure=>simp[intOf];omega
   |false=>
    rw[hh]at e2;have Hh:=Lib.hid hh;clear hh;have f0:=hfz (k*3);have f1:=hfz (k*3+1);have f2:=hfz (k*3+2);clear hfz;go_wp2
    go_region
    all_goals go_wp2
    obtain ⟨hR,hM⟩:=Rep.given_w HR.out h2 h6 Hol.out Hc.out (c.times+1) (.cells #[.int .i64 k,.int .i64 c.times] 101)
    refine bodyPost_ret (v:=.tuple #[.agg #[.int .i64 k,.int .i64 c.times],.int .i64 0]) (by simp[results,Tryz.results44,go_sem]) rfl (.inl ⟨k,c.times,?_,rfl,hR,hM,?_⟩)
    ·have:=allocAt_found m.cells 0 k c Hc.out Hh.out Hall.out;rw[Nat.zero_add]at this;exact this
    ·simp
  ·have hd:decide ((k:Int)<(m.cells.length:Int))=false:=by simp;omega
   go_wp2;refine bodyPost_ret (v:=.tuple #[.agg #[.int .i64 0,.int .i64 0],.int .i64 6]) (by simp[results,Tryz.results44,go_sem]) rfl (.inr ⟨?_,rfl,(Mod.refl _ _).alloc _⟩);refine allocAt_none _ _ fun j x hx=>Hall.out j x ?_ hx
   have:=(List.getElem?_eq_some_iff.1 hx).1;omega
end
end Go.Proofs.YtciaficoeajeaaaGreatDoor
section
namespace Qh
open Go Go.RowKit Qs Go.Proofs.YtciaficoeajeaaaGreatDoor
variable {τ : Ty}{w w':World}{L L':Lay}{m m':M}{N:Int}
theorem OkM.reset{i:Nat}{c c':Cell}(om:OkM N m)(hc:m.cells[i]?=some c)(hw:c'.words.length=4∧∀v∈c'.words,isWord v=true)(ht:0≤c'.times∧c'.times≤N):OkM N {m with cells:=m.cells.set i c'}:=by
 refine ⟨by simpa using om.cells1,by simpa using om.cells,fun j x hx=>?_,fun j x hx=>?_,om.waits,om.wlen,fun t l hl x hx=>by simpa using om.wval t l hl x hx,om.N0⟩
 ·simp only[List.getElem?_set]at hx
  split at hx
  ·split at hx
   ·cases hx;exact hw
   ·cases hx
  ·exact om.words j x hx
 ·simp only[List.getElem?_set]at hx
  split at hx
  ·split at hx
   ·cases hx;exact ht
   ·cases hx
  ·exact om.times j x hx
theorem zero_words(n:Int):(zeroCell n).words.length=4∧∀v∈(zeroCell n).words,isWord v=true:=⟨rfl,fun v hv=>by
 simp[zeroCell]at hv;subst hv;rfl⟩
theorem Mach.given(X:Mach τ w L m N){i B:Nat}{c:Cell}(hc:m.cells[i]?=some c)(hB:w.heap.size≤B)(R:Rep τ allK w' (L.words i B) {m with cells:=m.cells.set i (zeroCell (c.times+1))})(hM:Mod (fun x=>x=L.blk 2 0) w w') :
  MUp τ w L m w' (L.words i B) {m with cells:=m.cells.set i (zeroCell (c.times+1))} (N+1):=by
 have ht:=X.om.times i c hc;refine X.up (by omega) ⟨R,words_ok X.ol,⟨fun a j h6 _=>⟨by simp[Lay.words,h6],by simp[Lay.words,h6],by simp[Lay.words,h6],by simp[Lay.words,h6]⟩,rfl⟩,hM.mono (fun x _ e=>?_),fun k hk=>?_⟩ ((X.om.mono (by omega)).reset hc (zero_words _) ?_) rfl rfl rfl rfl
 ·subst e;exact ⟨2,0,rfl,by rw[obj2 τ m X.ol.n2];rfl,rfl⟩
 ·rcases words_foot X.ol hk with h|rfl
  ·exact .inl h
  ·exact .inr hB
 ·show 0≤c.times+1∧c.times+1≤N+1;omega
theorem Mach.setHere(X:Mach τ w L m N){i:Nat}{c:Cell}(hc:m.cells[i]?=some c)(b:Bool) :
  MUp τ w L m (w.setCell ⟨L.blk 2 0,i*3+2,none⟩ (.bool b)) L {m with cells:=m.cells.modify i fun y=>{y with here:=b}} N:=by
 refine X.up (Int.le_refl N) (X.rep.setHere rfl X.ol hc b) ?_ rfl rfl rfl rfl;rw[modify_get _ hc];exact X.om.reset hc (X.om.words i c hc) (X.om.times i c hc)
def swapM(m:M)(t a rc c:Nat)(v:Int):M:=({m with cells:=Qs.setWord m.cells rc c v}:M).setReg t a (getWord m.cells rc c)
def freeM(m:M)(rc:Nat):M:={m with cells:=m.cells.modify rc fun y=>{y with here:=false}}
def givenM(m:M)(t a i:Nat)(n:Int):M:=({m with cells:=m.cells.set i (zeroCell (n+1))}:M).setReg t a (wordOf i n)
variable {t:Nat}{h:Thr}{a b c p:Nat}{A B C:Int}{to:List UInt8}
theorem exec_swap_ok(hh:m.T[t]?=some h){rc:Nat}{rg:Int}(hn:m.names (h.regs.getD b 0)=some ((rc:Int),rg)) :
  (m.setPc t p).exec t ⟨8,a,b,c,to⟩=swapM ((m.setPc t p).fence t) t a rc c (h.regs.getD a 0):=by
 simp only[M.exec,thr_setPc hh,Thr.reg,Int.toNat_natCast,names_setPc,hn];rfl
theorem exec_swap_none(hh:m.T[t]?=some h)(hn:m.names (h.regs.getD b 0)=none):(m.setPc t p).exec t ⟨8,a,b,C,to⟩=((m.setPc t p).fault).setReg t a 0:=by
 simp only[M.exec,thr_setPc hh,Thr.reg,Int.toNat_natCast,names_setPc,hn]
theorem exec_free_ok(hh:m.T[t]?=some h){rc:Nat}{rg:Int}(hn:m.names (h.regs.getD a 0)=some ((rc:Int),rg)) :
  (m.setPc t p).exec t ⟨11,a,B,C,to⟩=freeM ((m.setPc t p).fence t) rc:=by
 simp only[M.exec,thr_setPc hh,Thr.reg,Int.toNat_natCast,names_setPc,hn];rfl
theorem exec_free_none(hh:m.T[t]?=some h)(hn:m.names (h.regs.getD a 0)=none):(m.setPc t p).exec t ⟨11,a,B,C,to⟩=(m.setPc t p).fault:=by
 simp only[M.exec,thr_setPc hh,Thr.reg,Int.toNat_natCast,names_setPc,hn]
theorem exec_alloc_ok{i:Nat}{n:Int}(ha:allocAt m.cells 0=some (i,n)):(m.setPc t p).exec t ⟨10,a,B,C,to⟩=givenM (m.setPc t p) t a i n:=by
 have e:(m.setPc t p).cells=m.cells:=rfl;simp only[M.exec,e,ha];rfl
theorem exec_alloc_none(ha:allocAt m.cells 0=none):(m.setPc t p).exec t ⟨10,a,B,C,to⟩=(m.setPc t p).setReg t a 0:=by
 have e:(m.setPc t p).cells=m.cells:=rfl;simp only[M.exec,e,ha]
theorem exec_force:(m.setPc t p).exec t ⟨13,A,B,C,to⟩=(m.setPc t p).force m.T.length:=by
 have e:(m.setPc t p).T.length=m.T.length:=by simp[M.setPc]
 simp only[M.exec,e]
theorem wordOf_word(c g:Int):isWord (wordOf c g)=true:=by
 unfold wordOf
 split
 ·rename_i h;exact h.2.2.2.2
 ·rfl
theorem allocAt_some:∀(l:List Cell) (s i:Nat) (n:Int),allocAt l s=some (i,n)→∃c,l[i - s]?=some c∧c.times=n
 |[],_,_,_,h=>by simp[allocAt]at h
 |x :: l,s,i,n,h=>by
  simp only[allocAt]at h
  split at h
  ·obtain ⟨c,hc,ht⟩:=allocAt_some l (s+1) i n h;have hle:s+1≤i:=allocAt_ge l (s+1) i n h;refine ⟨c,?_,ht⟩;rw[show i - s=(i - (s+1))+1 from by omega]
   simpa using hc
  ·cases h;exact ⟨x,by simp,rfl⟩
where allocAt_ge:∀(l:List Cell) (s i:Nat) (n:Int),allocAt l s=some (i,n)→s≤i
 |[],_,_,_,h=>by simp[allocAt]at h
 |x :: l,s,i,n,h=>by
  simp only[allocAt]at h
  split at h
  ·have:=allocAt_ge l (s+1) i n h;omega
  ·cases h;exact Nat.le_refl _
theorem force_T(m:M):∀k,(m.force k).T=m.T
 |0=>rfl
 |k+1=>by show ((m.force k).fence k).T=m.T;rw[←force_T m k];rfl
end Qh
end
namespace Go.Proofs.YtciaficoeajeaaaGreatDoor
section
open Go.RowKit Qs Qh
theorem intSize:(Tryz.prog.info? 3).map (·.size)=some 1:=by kernel_rfl
structure PreRel(W:World)(bs b0 bm:Nat)(iw rw_:Value)(n t:Nat)(init:List (List Int))(i:Nat)(wr:World)(L:Lay):Prop where
 rep:Rep ty memK wr L (preM n t init i)
 ol:OkL L (preM n t init i)
 below:Below W.heap.size W wr
 foot:∀k,Foot ty memK L (preM n t init i) k→W.heap.size≤k∧k≠bs∧k≠b0
 top:L.blk 1 0=bm
 nil7:∀j,L.nil 7 j=true
 box:wr.heap[bs]?=some (.cells #[.int .i64 n,iw,rw_] 24 (0,0))
 mach:wr.heap[b0]?=some (.cells #[.pointer (some ⟨bm,0,none⟩),.slice none 0 0,.slice none 0 0,.int .i64 0] 53 (0,0))
theorem PreRel.next{W wr w1 w2:World}{bs b0 bm n t i:Nat}{iw rw_:Value}{init:List (List Int)}{L:Lay}(h:PreRel W bs b0 bm iw rw_ n t init i wr L)(hW:bs<wr.heap.size)(hb0:b0<wr.heap.size)(hi:i<n){l:List Int}(hl:init[i]?=some l)(h4:l.length≤4)
  (R1:Rep ty memK w1 (L.words i (wr.heap.size+1)) {(preM n t init i)with cells:=(preM n t init i).cells.set i (zeroCell (0+1))}) (hM1:Mod (fun x=>x=L.blk 2 0) wr w1) (hs1:wr.heap.size+1<w1.heap.size)
  (hg:w2.heap[wr.heap.size+1]?=some (.cells ((pad 4 l).map (Value.int .i64)).toArray 3 (0,0))) (hM2:Mod (fun x=>x=wr.heap.size+1) w1 w2) :
  PreRel W bs b0 bm iw rw_ n t init (i+1) w2 (L.words i (wr.heap.size+1)):=by
 have hbe:=h.below.size;have h20:Foot ty memK L (preM n t init i) (L.blk 2 0):=⟨2,0,rfl,by rw[obj2 ty _ h.ol.n2];rfl,rfl⟩;have hf20:=h.foot _ h20
 have hgt:({(preM n t init i)with cells:=(preM n t init i).cells.set i (zeroCell (0+1))}:M).cells[i]?=some (zeroCell 1):=by
  show ((preM n t init i).cells.set i (zeroCell (0+1)))[i]?=_;rw[List.getElem?_set];simp[preM_len,hi]
 have ho6:obj ty (L.words i (wr.heap.size+1)) {(preM n t init i)with cells:=(preM n t init i).cells.set i (zeroCell (0+1))} 6 i=some ([iv 0,iv 0,iv 0,iv 0],ty.int):=by
  rw[obj6 ty (by simp[Lay.words]) hgt];simp[Lay.words,zeroCell]
 have hsucc:=preM_succ (t:=t) hi hl
 have R2:Rep ty memK w2 (L.words i (wr.heap.size+1)) (preM n t init (i+1)):=by
  rw[←hsucc];refine R1.put (a:=6) (i:=i) rfl ho6 (cs':=(pad 4 l).map iv) ?_ ?_ ?_ ?_
  ·rw[obj6 ty (c:=⟨pad 4 l,1,true⟩) (by simp[Lay.words]) (by
    show (((preM n t init i).cells.set i (zeroCell 1)).set i ⟨pad 4 l,1,true⟩)[i]?=_
    rw[List.getElem?_set];simp[preM_len,hi])]
   simp[Lay.words]
  ·intro b k hbk
   by_cases e2:b=2∧k=0
   ·obtain ⟨rfl,rfl⟩:=e2;rw[obj2 ty _ (by rw[words_nil L i _ 2 0 (by omega)];exact h.ol.n2),obj2 ty _ (by rw[words_nil L i _ 2 0 (by omega)];exact h.ol.n2)]
    have:flat (cellVals (L.words i (wr.heap.size+1))) 0 (((preM n t init i).cells.set i (zeroCell 1)).set i ⟨pad 4 l,1,true⟩)=flat (cellVals (L.words i (wr.heap.size+1))) 0 ((preM n t init i).cells.set i (zeroCell (0+1))):=by
     refine flat_congr _ _ 0 (by simp) fun q x y h1 h2=>?_;rw[List.getElem?_set]at h1
     by_cases e:i=q
     ·subst e;rw[List.getElem?_set]at h2;simp[preM_len,hi]at h1 h2;subst h1;subst h2;simp[cellVals,zeroCell,pad_len h4]
     ·rw[if_neg e,]at h1;have e0:(zeroCell 1:Cell)=zeroCell (0+1):=rfl;rw[e0,h2]at h1;cases h1;rfl
    show some (flat _ 0 (((preM n t init i).cells.set i (zeroCell 1)).set i ⟨pad 4 l,1,true⟩)++_,_)=some (flat _ 0 ((preM n t init i).cells.set i (zeroCell (0+1)))++_,_);rw[this]
   ·exact cell_obj ty _ {(preM n t init i)with cells:=(preM n t init i).cells.set i (zeroCell (0+1))} hgt b k hbk e2
  ·have:(L.words i (wr.heap.size+1)).blk 6 i=wr.heap.size+1:=by simp[Lay.words]
   rw[this];exact hM2
  ·have:(L.words i (wr.heap.size+1)).blk 6 i=wr.heap.size+1:=by simp[Lay.words]
   rw[this];exact hg
 have hfoot:∀k,Foot ty memK (L.words i (wr.heap.size+1)) (preM n t init (i+1)) k→Foot ty memK L (preM n t init i) k∨k=wr.heap.size+1:=by
  intro k hk;rw[←hsucc]at hk;have hk1:=foot_cell ty memK (L.words i (wr.heap.size+1)) {(preM n t init i)with cells:=(preM n t init i).cells.set i (zeroCell (0+1))} hgt k hk;exact words_foot h.ol hk1
 refine ⟨R2,?_,?_,?_,?_,?_,?_,?_⟩
 ·rw[←hsucc];have:=ok_cell (i:=i) (c:=zeroCell 1) (c':=⟨pad 4 l,1,true⟩) (words_ok (i:=i) (b:=wr.heap.size+1) (t:=0+1) h.ol);exact this
 ·exact (h.below.trans (hM1.under hbe (fun k hk=>by omega))).trans (hM2.under (by have:=hM1.size;omega) (fun k hk=>by omega))
 ·intro k hk
  rcases hfoot k hk with h1|h1
  ·exact h.foot k h1
  ·subst h1;refine ⟨by omega,by omega,by omega⟩
 ·rw[words_blk L i _ 1 0 (by omega)];exact h.top
 ·intro j;rw[words_nil L i _ 7 j (by omega)];exact h.nil7 j
 ·exact hM2.heap (hM1.heap h.box (fun e=>hf20.2.1 e.symm)) (by omega)
 ·exact hM2.heap (hM1.heap h.mach (fun e=>hf20.2.2 e.symm)) (by omega)
end
section
open Go.RowKit Qs Qh
def fb{α : Type}(p : α→Bool):List α→Nat→Int
 |[],_=>-1
 |n :: r,i=>if p n then fb p r (i+1)else (i:Int)
theorem fb_at{α : Type}{p : α→Bool}{l:List α}{k:Nat}{n : α}:∀ {s:Nat},l[k]?=some n→(∀(j:Nat) m,j<k→l[j]?=some m→p m=true)→p n=false→fb p l s=((s+k:Nat):Int):=by
 induction l generalizing k with
 |nil=>intro s h;simp at h
 |cons x r ih=>
  intro s h hj hn
  cases k with
  |zero=>simp at h;subst h;simp[fb,hn]
  |succ k=>
   have hx:=hj 0 x (by omega) rfl;simp only[fb,hx,if_true];rw[ih (s:=s+1) (by simpa using h) (fun j m hjk hm=>hj (j+1) m (by omega) (by simpa using hm)) hn]
   congr 1;omega
theorem fb_none{α : Type}{p : α→Bool}{l:List α}:∀ {s:Nat},(∀(j:Nat) m,l[j]?=some m→p m=true)→fb p l s = -1:=by
 induction l with
 |nil=>intro s _;rfl
 |cons x r ih=>
  intro s h;have hx:=h 0 x rfl;simp only[fb,hx,if_true];exact ih fun j m hm=>h (j+1) m (by simpa using hm)
theorem fb_neg{α : Type}(p : α→Bool)(l:List α)(s:Nat):decide (0≤fb p l s) = !l.all p:=by
 induction l generalizing s with
 |nil=>rfl
 |cons x r ih=>
  simp only[fb,List.all_cons]
  by_cases h:p x=true
  ·simp only[h,if_true,ih,Bool.true_and]
  ·have h':p x=false:=by simpa using h
   simp[h']
theorem rightM(v:Int)(w:World):Calls Tryz.prog 77 #[.int .i64 v] w fun e w'=>e=.returned (.bool (!isWord v))∧w=w':=by
 go_enter Tryz.func77,Tryz.ntmps77
 go_wp2_with fail
 refine (right_any v w).mono ?_;rintro e w' ⟨rfl,rfl⟩;go_wp2;go_ret;exact ⟨rfl,rfl⟩
theorem indexM(w:World)(v:Value)(l:List Int)(R:IntsAt w v l) :
  Calls Tryz.prog 113 #[v,.func (.func 77) #[] #[]] w fun e w'=>e=.returned (.int .i64 (fb isWord l 0))∧w=w':=by
 obtain ⟨ad,c,rfl,hlm,hx⟩:=R.at_;unfold maxLen at hlm;have Hx:=Lib.hid hx;clear hx R
 go_enter Tryz.func113,Tryz.ntmps113
 go_wp2
 go_loop [5,8] (fun _ i=>∃k:Nat,k≤l.length∧i=.int .i64 k∧∀(j:Nat) m,j<k→l[j]?=some m→isWord m=true) (fun _ i=>l.length - (intOf i).toNat)
 case atStart=>exact ⟨0,Nat.zero_le _,rfl,fun j m hj=>absurd hj (by omega)⟩
 case round=>
  obtain ⟨k,hk,rfl,hall⟩:=hrel;have Hall:=Lib.hid hall;clear hall
  by_cases hlt:k<l.length
  ·have hd:decide ((k:Int)<(l.length:Int))=true:=by rw[decide_eq_true_eq];omega
   have hki:(k:Int)<(l.length:Int):=by omega
   obtain ⟨n,hn⟩:∃n,l[k]?=some n:=⟨_,List.getElem?_eq_getElem hlt⟩;obtain ⟨b,off,rfl,hb,hc⟩:=Hx.out k n hn;have Hn:=Lib.hid hn;clear hn
   cases hv:isWord n with
   |true=>
    have Hv:=Lib.hid hv;clear hv
    go_wp2_with fail
    refine (rightM n w).mono ?_;rintro e w' ⟨rfl,rfl⟩;rw[Hv.out];go_wp2
    go_round
    case rel=>
     refine ⟨k+1,by omega,by go_num,fun j m hj hm=>?_⟩
     by_cases e:j=k
     ·subst e;rw[Hn.out]at hm;cases hm;exact Hv.out
     ·exact Hall.out j m (by omega) hm
    case measure=>simp[intOf];omega
   |false=>
    have Hv:=Lib.hid hv;clear hv
    go_wp2_with fail
    refine (rightM n w).mono ?_;rintro e w' ⟨rfl,rfl⟩;rw[Hv.out];go_wp2;go_ret;refine ⟨?_,rfl⟩;rw[fb_at Hn.out Hall.out Hv.out];simp
  ·have hd:decide ((k:Int)<(l.length:Int))=false:=by rw[decide_eq_false_iff_not];omega
   go_wp2;go_ret;refine ⟨?_,rfl⟩;rw[fb_none fun j m hm=>Hall.out j m (by have:=(List.getElem?_eq_some_iff.1 hm).1;omega) hm];rfl
theorem containsM(w:World)(v:Value)(l:List Int)(R:IntsAt w v l) :
  Calls Tryz.prog 76 #[v,.func (.func 77) #[] #[]] w fun e w'=>e=.returned (.bool (!l.all isWord))∧w=w':=by
 have hcall:=indexM w v l R;have hfb:=fb_neg isWord l 0;have Hcall:=Lib.hid hcall;generalize fb isWord l 0=n at *;generalize (!l.all isWord)=bb at *;clear hcall R
 go_enter Tryz.func76,Tryz.ntmps76
 go_wp2_with fail
 refine Hcall.out.mono ?_;rintro e w' ⟨rfl,rfl⟩;go_wp2;go_ret;exact ⟨rfl,rfl⟩
def rightB(most:Nat)(l:List Int):Bool:=decide (l.length≤most)&&l.all isWord
theorem rightP(w:World)(v:Value)(l:List Int)(R:IntsAt w v l)(most:Nat)(hm:most≤1000) :
  Calls Tryz.prog 35 #[v,.int .i64 most] w fun e w'=>e=.returned (.bool (rightB most l))∧w=w':=by
 have hcall:=containsM w v l R;obtain ⟨ad,c,rfl,hlm,-⟩:=R.at_;have Hcall:=Lib.hid hcall;unfold rightB;clear hcall R
 by_cases h:l.length≤most
 ·have hd:decide ((l.length:Int)≤(most:Int))=true:=by simp;omega
  have hd2:decide (l.length≤most)=true:=by simpa using h
  rw[hd2]
  cases hb:l.all isWord with
  |true=>
   rw[hb]at Hcall;clear hb
   go_enter Tryz.func35,Tryz.ntmps35
   go_wp2_with fail
   refine Hcall.out.mono ?_;rintro e w' ⟨rfl,rfl⟩;go_wp2;go_ret;exact ⟨rfl,rfl⟩
  |false=>
   rw[hb]at Hcall;clear hb
   go_enter Tryz.func35,Tryz.ntmps35
   go_wp2_with fail
   refine Hcall.out.mono ?_;rintro e w' ⟨rfl,rfl⟩;go_wp2;go_ret;exact ⟨rfl,rfl⟩
 ·have hd:decide ((l.length:Int)≤(most:Int))=false:=by simp;omega
  have hd2:decide (l.length≤most)=false:=by simpa using h
  rw[hd2]
  go_enter Tryz.func35,Tryz.ntmps35
  go_wp2;go_ret;exact ⟨rfl,rfl⟩
end
section
open Go.RowKit Qs Qh
theorem rows_lim{w:World}{v:Value}{ll:List (List Int)}(R:RowsAt0 w v ll):∃a c,v=.slice a ll.length c:=by
 obtain ⟨a,c,e,-⟩:=R;exact ⟨a,c,e⟩
theorem newF1(w:World)(v:Value)(l:List Int)(R:IntsAt w v l):Calls Tryz.prog 34 #[v] w fun e w'=>e=.returned (.bool (!rightB 4 l))∧w=w':=by
 have hcall:=rightP w v l R 4 (by decide);obtain ⟨ad,c,rfl,hlm,-⟩:=R.at_;have Hcall:=Lib.hid hcall;generalize rightB 4 l=bb at *;clear hcall R
 go_enter Tryz.func34,Tryz.ntmps34
 go_wp2_with fail
 refine Hcall.out.mono ?_;rintro e w' ⟨rfl,rfl⟩;go_wp2;go_ret;exact ⟨rfl,rfl⟩
theorem indexR1(w:World)(v:Value)(ll:List (List Int))(R:RowsAt0 w v ll)(hl:ll.length≤1000000) :
  Calls Tryz.prog 75 #[v,.func (.func 34) #[] #[]] w fun e w'=>e=.returned (.int .i64 (fb (rightB 4) ll 0))∧w=w':=by
 obtain ⟨ad,c,rfl,hx⟩:=R;have Hx:=Lib.hid hx;clear hx
 go_enter Tryz.func75,Tryz.ntmps75
 go_wp2
 go_loop [5,8] (fun _ i=>∃k:Nat,k≤ll.length∧i=.int .i64 k∧∀(j:Nat) m,j<k→ll[j]?=some m→rightB 4 m=true) (fun _ i=>ll.length - (intOf i).toNat)
 case atStart=>exact ⟨0,Nat.zero_le _,rfl,fun j m hj=>absurd hj (by omega)⟩
 case round=>
  obtain ⟨k,hk,rfl,hall⟩:=hrel;have Hall:=Lib.hid hall;clear hall
  by_cases hlt:k<ll.length
  ·have hd:decide ((k:Int)<(ll.length:Int))=true:=by rw[decide_eq_true_eq];omega
   have hki:(k:Int)<(ll.length:Int):=by omega
   obtain ⟨n,hn⟩:∃n,ll[k]?=some n:=⟨_,List.getElem?_eq_getElem hlt⟩;obtain ⟨b,off,u,rfl,hb,hc,hI,-⟩:=Hx.out k n hn;have hcall:=newF1 w u n hI;obtain ⟨ua,uc,rfl,hlm,-⟩:=hI.at_;have Hcall:=Lib.hid hcall;have Hn:=Lib.hid hn;clear hn hI hcall
   cases hv:rightB 4 n with
   |true=>
    rw[hv]at Hcall;have Hv:=Lib.hid hv;clear hv
    go_wp2_with fail
    refine Hcall.out.mono ?_;rintro e w' ⟨rfl,rfl⟩;go_wp2
    go_round
    case rel=>
     refine ⟨k+1,by omega,by go_num,fun j m hj hm=>?_⟩
     by_cases e:j=k
     ·subst e;rw[Hn.out]at hm;cases hm;exact Hv.out
     ·exact Hall.out j m (by omega) hm
    case measure=>simp[intOf];omega
   |false=>
    rw[hv]at Hcall;have Hv:=Lib.hid hv;clear hv
    go_wp2_with fail
    refine Hcall.out.mono ?_;rintro e w' ⟨rfl,rfl⟩;go_wp2;go_ret;refine ⟨?_,rfl⟩;rw[fb_at Hn.out Hall.out Hv.out];simp
  ·have hd:decide ((k:Int)<(ll.length:Int))=false:=by rw[decide_eq_false_iff_not];omega
   go_wp2;go_ret;refine ⟨?_,rfl⟩;rw[fb_none fun j m hm=>Hall.out j m (by have:=(List.getElem?_eq_some_iff.1 hm).1;omega) hm];rfl
theorem containsR1(w:World)(v:Value)(ll:List (List Int))(R:RowsAt0 w v ll)(hl:ll.length≤1000000) :
  Calls Tryz.prog 33 #[v,.func (.func 34) #[] #[]] w fun e w'=>e=.returned (.bool (!ll.all (rightB 4)))∧w=w':=by
 have hcall:=indexR1 w v ll R hl;have hfb:=fb_neg (rightB 4) ll 0;obtain ⟨ad,c,rfl⟩:=rows_lim R;have Hcall:=Lib.hid hcall;generalize fb (rightB 4) ll 0=n at *;generalize (!ll.all (rightB 4))=bb at *;clear hcall R
 go_enter Tryz.func33,Tryz.ntmps33
 go_wp2_with fail
 refine Hcall.out.mono ?_;rintro e w' ⟨rfl,rfl⟩;go_wp2;go_ret;exact ⟨rfl,rfl⟩
theorem newF2(w:World)(v:Value)(l:List Int)(R:IntsAt w v l):Calls Tryz.prog 36 #[v] w fun e w'=>e=.returned (.bool (!rightB 8 l))∧w=w':=by
 have hcall:=rightP w v l R 8 (by decide);obtain ⟨ad,c,rfl,hlm,-⟩:=R.at_;have Hcall:=Lib.hid hcall;generalize rightB 8 l=bb at *;clear hcall R
 go_enter Tryz.func36,Tryz.ntmps36
 go_wp2_with fail
 refine Hcall.out.mono ?_;rintro e w' ⟨rfl,rfl⟩;go_wp2;go_ret;exact ⟨rfl,rfl⟩
theorem indexR2(w:World)(v:Value)(ll:List (List Int))(R:RowsAt0 w v ll)(hl:ll.length≤1000000) :
  Calls Tryz.prog 75 #[v,.func (.func 36) #[] #[]] w fun e w'=>e=.returned (.int .i64 (fb (rightB 8) ll 0))∧w=w':=by
 obtain ⟨ad,c,rfl,hx⟩:=R;have Hx:=Lib.hid hx;clear hx
 go_enter Tryz.func75,Tryz.ntmps75
 go_wp2
 go_loop [5,8] (fun _ i=>∃k:Nat,k≤ll.length∧i=.int .i64 k∧∀(j:Nat) m,j<k→ll[j]?=some m→rightB 8 m=true) (fun _ i=>ll.length - (intOf i).toNat)
 case atStart=>exact ⟨0,Nat.zero_le _,rfl,fun j m hj=>absurd hj (by omega)⟩
 case round=>
  obtain ⟨k,hk,rfl,hall⟩:=hrel;have Hall:=Lib.hid hall;clear hall
  by_cases hlt:k<ll.length
  ·have hd:decide ((k:Int)<(ll.length:Int))=true:=by rw[decide_eq_true_eq];omega
   have hki:(k:Int)<(ll.length:Int):=by omega
   obtain ⟨n,hn⟩:∃n,ll[k]?=some n:=⟨_,List.getElem?_eq_getElem hlt⟩;obtain ⟨b,off,u,rfl,hb,hc,hI,-⟩:=Hx.out k n hn;have hcall:=newF2 w u n hI;obtain ⟨ua,uc,rfl,hlm,-⟩:=hI.at_;have Hcall:=Lib.hid hcall;have Hn:=Lib.hid hn;clear hn hI hcall
   cases hv:rightB 8 n with
   |true=>
    rw[hv]at Hcall;have Hv:=Lib.hid hv;clear hv
    go_wp2_with fail
    refine Hcall.out.mono ?_;rintro e w' ⟨rfl,rfl⟩;go_wp2
    go_round
    case rel=>
     refine ⟨k+1,by omega,by go_num,fun j m hj hm=>?_⟩
     by_cases e:j=k
     ·subst e;rw[Hn.out]at hm;cases hm;exact Hv.out
     ·exact Hall.out j m (by omega) hm
    case measure=>simp[intOf];omega
   |false=>
    rw[hv]at Hcall;have Hv:=Lib.hid hv;clear hv
    go_wp2_with fail
    refine Hcall.out.mono ?_;rintro e w' ⟨rfl,rfl⟩;go_wp2;go_ret;refine ⟨?_,rfl⟩;rw[fb_at Hn.out Hall.out Hv.out];simp
  ·have hd:decide ((k:Int)<(ll.length:Int))=false:=by rw[decide_eq_false_iff_not];omega
   go_wp2;go_ret;refine ⟨?_,rfl⟩;rw[fb_none fun j m hm=>Hall.out j m (by have:=(List.getElem?_eq_some_iff.1 hm).1;omega) hm];rfl
theorem containsR2(w:World)(v:Value)(ll:List (List Int))(R:RowsAt0 w v ll)(hl:ll.length≤1000000) :
  Calls Tryz.prog 33 #[v,.func (.func 36) #[] #[]] w fun e w'=>e=.returned (.bool (!ll.all (rightB 8)))∧w=w':=by
 have hcall:=indexR2 w v ll R hl;have hfb:=fb_neg (rightB 8) ll 0;obtain ⟨ad,c,rfl⟩:=rows_lim R;have Hcall:=Lib.hid hcall;generalize fb (rightB 8) ll 0=n at *;generalize (!ll.all (rightB 8))=bb at *;clear hcall R
 go_enter Tryz.func33,Tryz.ntmps33
 go_wp2_with fail
 refine Hcall.out.mono ?_;rintro e w' ⟨rfl,rfl⟩;go_wp2;go_ret;exact ⟨rfl,rfl⟩
end
section
open Go.RowKit Qs Qh
theorem nameB_low{s:ByteArray}(hp:0<s.size)(h:lowB s[0]=false):nameB s.data.toList=false:=nameB_first (bytes_get s 0 hp) h
theorem lowB_true{c:UInt8}(h:97≤(c.toNat:Int)∧(c.toNat:Int)≤122):lowB c=true:=by
 unfold lowB;simp only[Bool.and_eq_true,decide_eq_true_eq];omega
theorem lowB_false{c:UInt8}(h:¬(97≤(c.toNat:Int)∧(c.toNat:Int)≤122)):lowB c=false:=by
 rw[←Bool.not_eq_true];unfold lowB;simp only[Bool.and_eq_true,decide_eq_true_eq];omega
theorem isName_any(s:ByteArray)(w:World)(hs:s.size≤maxLen) :
  Calls Tryz.prog 126 #[.string s] w fun e w'=>e=.returned (.bool (nameB s.data.toList))∧w=w':=by
 unfold maxLen at hs
 by_cases h0:s.size=0
 ·have e2:nameB s.data.toList=false:=by
   have:s.data.toList=[]:=List.length_eq_zero_iff.1 (by rw[bytes_len];exact h0);rw[this];rfl
  rw[e2]
  have hd:decide ((s.size:Int)<1)=true:=by simp;omega
  clear e2
  go_enter Tryz.func126,Tryz.ntmps126
  go_wp2;go_ret;exact ⟨rfl,rfl⟩
 ·have hp:0<s.size:=by omega
  have hd0:decide ((s.size:Int)<1)=false:=by simp;omega
  by_cases h12:12<s.size
  ·have e2:=nameB_len (l:=s.data.toList) (by rw[bytes_len];exact h12);rw[e2];clear e2 h0
   have hd:decide ((12:Int)<(s.size:Int))=true:=by simp;omega
   go_enter Tryz.func126,Tryz.ntmps126
   go_wp2;go_ret;exact ⟨rfl,rfl⟩
  ·have hd:decide ((12:Int)<(s.size:Int))=false:=by simp;omega
   clear h0
   go_enter Tryz.func126,Tryz.ntmps126
   go_wp2
   go_loop [3,4,5] (fun i _ _=>∃k:Nat,k≤s.size∧i=.int .i64 k∧(0<k→lowB s[0]=true)∧∀(j:Nat) d,j<k→s.data.toList[j]?=some d→chB d=true) (fun i _ _=>s.size - (intOf i).toNat)
   case atStart=>exact ⟨0,Nat.zero_le _,rfl,fun h=>absurd h (by omega),fun j d hj=>absurd hj (by omega)⟩
   case round=>
    obtain ⟨k,hk,rfl,hfirst,hall⟩:=hrel;have Hall:=Lib.hid hall;have Hfirst:=Lib.hid hfirst;clear hall hfirst
    by_cases hlt:k<s.size
    ·have gk:=bytes_get s k hlt;have Gk:=Lib.hid gk;clear gk
     by_cases hk0:k=0
     ·subst hk0;go_wp2
      all_goals (try simp only[bne_iff_ne,ne_eq,bne_eq_false_iff_eq,Bool.not_eq_true',Bool.not_eq_false',decide_eq_false_iff_not,decide_eq_true_eq]at *)
      all_goals first
       | (go_round
          case rel=>exact ⟨1,by omega,by go_num,fun _=>lowB_true (by omega),ch_step hlt Hall.out (chB_true (by omega))⟩
          case measure=>simp[intOf];omega)
       | (go_ret
          exact ⟨ret_bool (nameB_low hp (lowB_false (by omega))).symm,rfl⟩)
     ·have hkz:((k:Int)==0)=false:=by rw[beq_eq_false_iff_ne];omega
      have Hk0:=Lib.hid hk0;clear hk0;go_wp2
      all_goals (try simp only[bne_iff_ne,ne_eq,bne_eq_false_iff_eq,Bool.not_eq_true',Bool.not_eq_false',decide_eq_false_iff_not,decide_eq_true_eq]at *)
      all_goals first
       | (go_round
          case rel=>exact ⟨k+1,by omega,by go_num,fun _=>Hfirst.out (by have:=Hk0.out;omega),ch_step hlt Hall.out (chB_true (by omega))⟩
          case measure=>simp[intOf];omega)
       | (go_ret
          exact ⟨ret_bool (nameB_ch Gk.out (chB_false (by omega))).symm,rfl⟩)
    ·obtain rfl:k=s.size:=by omega
     go_wp2;go_ret;refine ⟨ret_bool (nameB_yes (bytes_get s 0 hp) (Hfirst.out hp) (by rw[bytes_len];omega) fun i d hd=>Hall.out i d ?_ hd).symm,rfl⟩;have:=(List.getElem?_eq_some_iff.1 hd).1;rw[bytes_len]at this;exact this
end
section
open Go.RowKit Qs Qh
theorem shape_const(w:World):Calls Tryz.prog 124 #[.string ⟨#[99,111,110,115,116]⟩] w fun e w'=>e=.returned (.tuple #[.string ⟨#[114,118]⟩,.bool true])∧w=w':=by
 go_enter Tryz.func124,Tryz.ntmps124
 go_wp2;go_ret2;exact ⟨rfl,rfl⟩
theorem shape_move(w:World):Calls Tryz.prog 124 #[.string ⟨#[109,111,118,101]⟩] w fun e w'=>e=.returned (.tuple #[.string ⟨#[114,114]⟩,.bool true])∧w=w':=by
 go_enter Tryz.func124,Tryz.ntmps124
 go_wp2;go_ret2;exact ⟨rfl,rfl⟩
theorem shape_add(w:World):Calls Tryz.prog 124 #[.string ⟨#[97,100,100]⟩] w fun e w'=>e=.returned (.tuple #[.string ⟨#[114,114,114]⟩,.bool true])∧w=w':=by
 go_enter Tryz.func124,Tryz.ntmps124
 go_wp2;go_ret2;exact ⟨rfl,rfl⟩
theorem shape_sub(w:World):Calls Tryz.prog 124 #[.string ⟨#[115,117,98]⟩] w fun e w'=>e=.returned (.tuple #[.string ⟨#[114,114,114]⟩,.bool true])∧w=w':=by
 go_enter Tryz.func124,Tryz.ntmps124
 go_wp2;go_ret2;exact ⟨rfl,rfl⟩
theorem shape_and(w:World):Calls Tryz.prog 124 #[.string ⟨#[97,110,100]⟩] w fun e w'=>e=.returned (.tuple #[.string ⟨#[114,114,114]⟩,.bool true])∧w=w':=by
 go_enter Tryz.func124,Tryz.ntmps124
 go_wp2;go_ret2;exact ⟨rfl,rfl⟩
theorem shape_xor(w:World):Calls Tryz.prog 124 #[.string ⟨#[120,111,114]⟩] w fun e w'=>e=.returned (.tuple #[.string ⟨#[114,114,114]⟩,.bool true])∧w=w':=by
 go_enter Tryz.func124,Tryz.ntmps124
 go_wp2;go_ret2;exact ⟨rfl,rfl⟩
theorem shape_load(w:World):Calls Tryz.prog 124 #[.string ⟨#[108,111,97,100]⟩] w fun e w'=>e=.returned (.tuple #[.string ⟨#[114,114,119]⟩,.bool true])∧w=w':=by
 go_enter Tryz.func124,Tryz.ntmps124
 go_wp2;go_ret2;exact ⟨rfl,rfl⟩
theorem shape_store(w:World):Calls Tryz.prog 124 #[.string ⟨#[115,116,111,114,101]⟩] w fun e w'=>e=.returned (.tuple #[.string ⟨#[114,114,119]⟩,.bool true])∧w=w':=by
 go_enter Tryz.func124,Tryz.ntmps124
 go_wp2;go_ret2;exact ⟨rfl,rfl⟩
theorem shape_swap(w:World):Calls Tryz.prog 124 #[.string ⟨#[115,119,97,112]⟩] w fun e w'=>e=.returned (.tuple #[.string ⟨#[114,114,119]⟩,.bool true])∧w=w':=by
 go_enter Tryz.func124,Tryz.ntmps124
 go_wp2;go_ret2;exact ⟨rfl,rfl⟩
theorem shape_cas(w:World):Calls Tryz.prog 124 #[.string ⟨#[99,97,115]⟩] w fun e w'=>e=.returned (.tuple #[.string ⟨#[114,115,119]⟩,.bool true])∧w=w':=by
 go_enter Tryz.func124,Tryz.ntmps124
 go_wp2;go_ret2;exact ⟨rfl,rfl⟩
theorem shape_alloc(w:World):Calls Tryz.prog 124 #[.string ⟨#[97,108,108,111,99]⟩] w fun e w'=>e=.returned (.tuple #[.string ⟨#[114]⟩,.bool true])∧w=w':=by
 go_enter Tryz.func124,Tryz.ntmps124
 go_wp2;go_ret2;exact ⟨rfl,rfl⟩
theorem shape_free(w:World):Calls Tryz.prog 124 #[.string ⟨#[102,114,101,101]⟩] w fun e w'=>e=.returned (.tuple #[.string ⟨#[114]⟩,.bool true])∧w=w':=by
 go_enter Tryz.func124,Tryz.ntmps124
 go_wp2;go_ret2;exact ⟨rfl,rfl⟩
theorem shape_fence(w:World):Calls Tryz.prog 124 #[.string ⟨#[102,101,110,99,101]⟩] w fun e w'=>e=.returned (.tuple #[.string ⟨#[]⟩,.bool true])∧w=w':=by
 go_enter Tryz.func124,Tryz.ntmps124
 go_wp2;go_ret2;exact ⟨rfl,rfl⟩
theorem shape_force(w:World):Calls Tryz.prog 124 #[.string ⟨#[102,111,114,99,101]⟩] w fun e w'=>e=.returned (.tuple #[.string ⟨#[]⟩,.bool true])∧w=w':=by
 go_enter Tryz.func124,Tryz.ntmps124
 go_wp2;go_ret2;exact ⟨rfl,rfl⟩
theorem shape_zero(w:World):Calls Tryz.prog 124 #[.string ⟨#[122,101,114,111]⟩] w fun e w'=>e=.returned (.tuple #[.string ⟨#[114,108]⟩,.bool true])∧w=w':=by
 go_enter Tryz.func124,Tryz.ntmps124
 go_wp2;go_ret2;exact ⟨rfl,rfl⟩
theorem shape_same(w:World):Calls Tryz.prog 124 #[.string ⟨#[115,97,109,101]⟩] w fun e w'=>e=.returned (.tuple #[.string ⟨#[114,114,108]⟩,.bool true])∧w=w':=by
 go_enter Tryz.func124,Tryz.ntmps124
 go_wp2;go_ret2;exact ⟨rfl,rfl⟩
theorem shape_goto(w:World):Calls Tryz.prog 124 #[.string ⟨#[103,111,116,111]⟩] w fun e w'=>e=.returned (.tuple #[.string ⟨#[108]⟩,.bool true])∧w=w':=by
 go_enter Tryz.func124,Tryz.ntmps124
 go_wp2;go_ret2;exact ⟨rfl,rfl⟩
theorem shape_label(w:World):Calls Tryz.prog 124 #[.string ⟨#[108,97,98,101,108]⟩] w fun e w'=>e=.returned (.tuple #[.string ⟨#[108]⟩,.bool true])∧w=w':=by
 go_enter Tryz.func124,Tryz.ntmps124
 go_wp2;go_ret2;exact ⟨rfl,rfl⟩
theorem shape_mark(w:World):Calls Tryz.prog 124 #[.string ⟨#[109,97,114,107]⟩] w fun e w'=>e=.returned (.tuple #[.string ⟨#[114]⟩,.bool true])∧w=w':=by
 go_enter Tryz.func124,Tryz.ntmps124
 go_wp2;go_ret2;exact ⟨rfl,rfl⟩
theorem shape_need(w:World):Calls Tryz.prog 124 #[.string ⟨#[110,101,101,100]⟩] w fun e w'=>e=.returned (.tuple #[.string ⟨#[114]⟩,.bool true])∧w=w':=by
 go_enter Tryz.func124,Tryz.ntmps124
 go_wp2;go_ret2;exact ⟨rfl,rfl⟩
theorem shape_stop(w:World):Calls Tryz.prog 124 #[.string ⟨#[115,116,111,112]⟩] w fun e w'=>e=.returned (.tuple #[.string ⟨#[]⟩,.bool true])∧w=w':=by
 go_enter Tryz.func124,Tryz.ntmps124
 go_wp2;go_ret2;exact ⟨rfl,rfl⟩
end
section
open Go.RowKit Qs Qh
theorem numbers_any(s t:ByteArray)(a b c:Int)(w:World) :
  Calls Tryz.prog 125 #[.agg #[.string s,.int .i64 a,.int .i64 b,.int .i64 c,.string t]] w fun e w'=>∃g,e=.returned (.slice (some ⟨g,0,none⟩) 3 3)∧g<w'.heap.size∧w'.cell? ⟨g,0,none⟩=some (.int .i64 a)∧w'.cell? ⟨g,1,none⟩=some (.int .i64 b)∧w'.cell? ⟨g,2,none⟩=some (.int .i64 c)∧Mod noF w w':=by
 go_enter Tryz.func125,Tryz.ntmps125
 go_wp2;go_ret;exact ⟨_,rfl,by simp,by simp,by simp,by simp,((Mod.refl _ _).alloc _).alloc _⟩
end
section
open Go.ChangeShapes Go.WideShapes Go.ChangeAt Go.RowKit Qh
def RowsAt{α : Type}(vals : α→List Value)(k:Nat)(w:World)(v:Value)(l:List α):Prop:=
 ∃a c,v=.slice a l.length c∧l.length≤c∧c≤maxLen∧(a=none→c=0)∧∀i x,l[i]?=some x→∃b off,a=some ⟨b,off,none⟩∧b<w.heap.size∧∀j y,(vals x)[j]?=some y→w.cell? ⟨b,off+i*k+j,none⟩=some y
theorem rowsAt_of{H:Type}{enc:TypeId × Value→H}{P:Program}{W:World}{T I:TypeId}{a:Option Addr}{len cap:Nat}{d:DataW H}{p:List MemPlace}{α : Type}{vals : α→List Value}{k:Nat}{good : α→Prop}(hk:0<k)(hT:P.underlying T=some (.slice I))(hC:P.cellsOf I=k)
  (hread:∀n cs y,DataW.trod enc P W 0 (fun _=>true) true n I cs=some y→∃x,cs=vals x∧good x)
  (h:DataW.Trod enc P W 0 (fun _=>true) true T (.slice a len cap) d p):∃l:List α,RowsAt vals k W (.slice a len cap) l∧∀x∈l,good x:=by
 obtain ⟨fuel,hf⟩:=h
 rcases Go.Deep.open_slice hT hf with ⟨hcs,_⟩|⟨A,l,c,m,n,D,Pl,hcs,_,hl,hm,hmm,_,hel⟩
 ·simp[Value.cells]at hcs;obtain ⟨rfl,rfl,rfl⟩:=hcs;exact ⟨[],⟨none,0,rfl,by simp,by simp,fun _=>rfl,fun i x h=>by simp at h⟩,fun x h=>by simp at h⟩
 ·simp[Value.cells]at hcs;obtain ⟨rfl,rfl,rfl⟩:=hcs
  have hx:∀i,i<len→∃x,good x∧(vals x).length=k∧∀j,j<k→W.cell? (A.add (i*k+j))=(vals x)[j]?:=fun i hi=>by
   obtain ⟨cs',hc,ht⟩:=hel i (by rw[hmm];simp;omega);obtain ⟨x,rfl,hg⟩:=hread _ _ _ ht;obtain ⟨_,hlen,hat⟩:=World.cells?_some hc;rw[hC]at hat hlen;exact ⟨x,hg,hlen,fun j hj=>by rw[←hat j hj,Go.Deep.add_add]⟩
  refine ⟨List.ofFn fun (i:Fin len)=>Classical.choose (hx i.1 i.2),⟨some A,cap,by simp,by simpa using hl,hm,fun e=>by simp at e,fun i x hi=>?_⟩,fun x hx'=>?_⟩
  ·obtain ⟨h1,h2⟩:=List.getElem?_eq_some_iff.1 hi
   have hi':i<len:=by simpa using h1
   simp only[List.getElem_ofFn]at h2;obtain ⟨_,hlen,hat⟩:=Classical.choose_spec (hx i hi');rw[h2]at hlen hat;obtain ⟨_,hlen0,hat0⟩:=Classical.choose_spec (hx 0 (by omega));have h00:=hat0 0 hk;rw[List.getElem?_eq_getElem (by omega)]at h00;obtain ⟨b,off,spot⟩:=A
   have hspot:spot=none:=by simpa[Addr.add]using World.cell?_spot h00
   subst hspot;refine ⟨b,off,rfl,by simpa[Addr.add]using World.block_lt_of_cell? _ _ h00,fun j y hj=>?_⟩
   have hjk:j<k:=by rw[←hlen];exact (List.getElem?_eq_some_iff.1 hj).1
   have:=hat j hjk;rw[Go.WideShapes.add_plain]at this;rw[Nat.add_assoc,this,hj]
  ·obtain ⟨i,rfl⟩:=(List.mem_ofFn).1 hx';exact (Classical.choose_spec (hx i.1 i.2)).1
end
section
open Go.ChangeShapes Go.WideShapes Go.ChangeAt Go.RowKit Qh
def IsRow(k:IntKind)(w:World)(a:Option Addr)(len cap:Nat)(zs:List Int):Prop:=
 (a=none∧len=0∧cap=0∧zs=[])∨
 ∃x,a=some x∧len≤cap∧cap≤maxLen∧zs.length=cap∧(∀i,i<zs.length→w.cell? (x.add i)=some (.int k (zs.getD i 0)))∧∀n∈zs,(Lit.int k n).wf=true
theorem isRow_of{H:Type}{enc:TypeId × Value→H}{P:Program}{W:World}{T I:TypeId}{a:Option Addr}{len cap:Nat}{d:DataW H}{p:List MemPlace}(hT:P.underlying T=some (.slice I))(hI:P.underlying I=some (.int .i64))(hc:P.cellsOf I=1)
  (h:DataW.Trod enc P W 0 (fun _=>true) true T (.slice a len cap) d p):∃zs,IsRow .i64 W a len cap zs:=by
 obtain ⟨fuel,hf⟩:=h
 rcases open_ints hT hI hc hf with ⟨hcs,_⟩|⟨x,l,c,zs,hcs,_,hl,hm,hz,_,hcell,hwz⟩
 ·simp[Value.cells]at hcs;obtain ⟨rfl,rfl,rfl⟩:=hcs;exact ⟨[],.inl ⟨rfl,rfl,rfl,rfl⟩⟩
 ·simp[Value.cells]at hcs;obtain ⟨rfl,rfl,rfl⟩:=hcs;exact ⟨zs,.inr ⟨_,rfl,hl,hm,by simpa using hz,hcell,hwz⟩⟩
theorem IsRow.ints{w:World}{a:Option Addr}{len cap:Nat}{zs:List Int}(h:IsRow .i64 w a len cap zs) :
  ∃l,IntsAt w (.slice a len cap) l∧(∀x∈l,-9223372036854775808≤x∧x≤9223372036854775807)∧(l≠[]→∀b,(Value.slice a len cap).ownBlock=some b→b<w.heap.size):=by
 rcases h with ⟨rfl,rfl,rfl,rfl⟩|⟨x,rfl,hl,hm,hz,hcell,hwf⟩
 ·exact ⟨[],⟨none,0,rfl,by simp,fun i x h=>by simp at h⟩,fun x h=>by simp at h,fun h=>absurd rfl h⟩
 ·have hlen:(zs.take len).length=len:=by simp;omega
  have hpos:∀i,i<(zs.take len).length→∃b off,x=⟨b,off,none⟩∧w.cell? ⟨b,off+i,none⟩=some (.int .i64 (zs.getD i 0)):=fun i hi=>by
   obtain ⟨b,off,e,hj⟩:=ints_at hcell (by omega);exact ⟨b,off,e,hj i (by omega)⟩
  refine ⟨zs.take len,⟨some x,cap,by rw[hlen],by rw[hlen];omega,fun i y hi=>?_⟩,fun y hy=>?_,fun hne b hb=>?_⟩
  ·obtain ⟨h1,h2⟩:=List.getElem?_eq_some_iff.1 hi;obtain ⟨b,off,rfl,hc⟩:=hpos i h1;refine ⟨b,off,rfl,World.block_lt_of_cell? _ _ hc,?_⟩;rw[hc];simp at h2
   have hi2:i<zs.length:=by simp at h1;omega
   simp[List.getD,hi2,h2]
  ·have:=hwf y (List.mem_of_mem_take hy);simp only[Lit.wf,Bool.and_eq_true,decide_eq_true_eq]at this;exact this
  ·have hb':x.block=b:=by simpa[Value.ownBlock]using hb
   obtain ⟨c,off,rfl,hc⟩:=hpos 0 (List.length_pos_iff.2 hne);have:=World.block_lt_of_cell? _ _ hc;exact hb' ▸ this
end
section
open Go
def kindsOf(P:Program)(b:Bool)(l:List TypeId):List (Option IntKind):=if b then []else l.map fun t=>match P.underlying t with|some (.int k)=>some k|_=>none
theorem joined_of{P:Program}{f:FuncId}{fn:Func}{s:ChangeSpec}{c:OpenClaim}
  (k0:(c.wf (OpenSpec.ofChange s))=true)
  (k1:(laidOutB P)=true)
  (k2:(mapsRowed P)=true)
  (k3:(fn.params.all (P.readableRec ·))=true)
  (k4:(namedTie P c.named s.vars)=true)
  (k5:((c.stops==[]))=true)
  (k6:((P.stops==[]))=true)
  (k7:((c.knobs==[]))=true)
  (k8:((P.stopKnobs==[]))=true)
  (k9:((c.inPlace==P.inPlace f))=true)
  (k10:((c.unfollowed==P.unfollowed f))=true)
  (k11:((c.recurses==P.recurses f))=true)
  (k12:((c.named==P.varsNamed f))=true)
  (k13:((c.maps==(fn.params.toList++s.plain.varTypes P).any (P.mapsRec ·)))=true)
  (k14:((c.ifaces==(fn.params.toList++s.plain.varTypes P).any (P.ifacesRec ·)))=true)
  (k15:((c.mapsOut==P.mapsAmong fn.resultTypes.toList))=true)
  (k16:((c.loops==(fn.params.toList++s.plain.varTypes P).any (P.loopsFrom ·)))=true)
  (k17:((c.wideKeys==(fn.params.toList++s.plain.varTypes P++fn.resultTypes.toList).any (P.wideKeysFrom ·)))=true)
  (k18:(s.vars.all (P.varReadable ·))=true)
  (k19:(fn.resultTypes.all (fun t=>P.readableRec t&&decide (t<P.types.size)))=true)
  (k20:((c.ifacesOut==fn.resultTypes.toList.any (P.ifacesRec ·)))=true)
  (k21:((c.loopsOut==fn.resultTypes.toList.any (P.loopsFrom ·)))=true)
  (k22:((c.plainKeys==P.plainKeys))=true)
  (k23:(c.shortTexts.isNone)=true)
  (k24:(P.stopsHeard)=true)
  (k25:(P.mayEnter)=true)
  (k26:((c.lifted==P.liftsFinal))=true)
  (k27:((P.make==some c.make))=true)
  (k28:((c.kinds==kindsOf P c.domain.isEmpty fn.params.toList))=true)
  (k29:((c.pinned==c.pinnedBy))=true)
  (k30:((c.veiled==(fn.params.toList++s.plain.varTypes P++fn.resultTypes.toList).any (P.veiledRec ·)))=true)
  (k31:(c.veiledFits P fn.params.toList (fn.params.toList++s.plain.varTypes P++fn.resultTypes.toList))=true):joinedFacts P f fn s c=true:=by
 unfold joinedFacts;refine Bool.and_eq_true_iff.2 ⟨?_,k31⟩;refine Bool.and_eq_true_iff.2 ⟨?_,k30⟩;refine Bool.and_eq_true_iff.2 ⟨?_,k29⟩;refine Bool.and_eq_true_iff.2 ⟨?_,k28⟩;refine Bool.and_eq_true_iff.2 ⟨?_,k27⟩;refine Bool.and_eq_true_iff.2 ⟨?_,k26⟩;refine Bool.and_eq_true_iff.2 ⟨?_,k25⟩
 refine Bool.and_eq_true_iff.2 ⟨?_,k24⟩;refine Bool.and_eq_true_iff.2 ⟨?_,k23⟩;refine Bool.and_eq_true_iff.2 ⟨?_,k22⟩;refine Bool.and_eq_true_iff.2 ⟨?_,k21⟩;refine Bool.and_eq_true_iff.2 ⟨?_,k20⟩;refine Bool.and_eq_true_iff.2 ⟨?_,k19⟩;refine Bool.and_eq_true_iff.2 ⟨?_,k18⟩
 refine Bool.and_eq_true_iff.2 ⟨?_,k17⟩;refine Bool.and_eq_true_iff.2 ⟨?_,k16⟩;refine Bool.and_eq_true_iff.2 ⟨?_,k15⟩;refine Bool.and_eq_true_iff.2 ⟨?_,k14⟩;refine Bool.and_eq_true_iff.2 ⟨?_,k13⟩;refine Bool.and_eq_true_iff.2 ⟨?_,k12⟩;refine Bool.and_eq_true_iff.2 ⟨?_,k11⟩
 refine Bool.and_eq_true_iff.2 ⟨?_,k10⟩;refine Bool.and_eq_true_iff.2 ⟨?_,k9⟩;refine Bool.and_eq_true_iff.2 ⟨?_,k8⟩;refine Bool.and_eq_true_iff.2 ⟨?_,k7⟩;refine Bool.and_eq_true_iff.2 ⟨?_,k6⟩;refine Bool.and_eq_true_iff.2 ⟨?_,k5⟩;refine Bool.and_eq_true_iff.2 ⟨?_,k4⟩
 refine Bool.and_eq_true_iff.2 ⟨?_,k3⟩;refine Bool.and_eq_true_iff.2 ⟨?_,k2⟩;refine Bool.and_eq_true_iff.2 ⟨?_,k1⟩;exact k0
end
section
theorem own:ownKnob Tryz.prog.godebug=none:=by kernel_rfl
theorem laidOut:laidOutB Tryz.prog=true:=by kernel_rfl
noncomputable def low:Nat:=(World.holding Tryz.prog default ⟨#[],#[],[]⟩).heap.size
def setVar(vs:Array Value):Obj→Obj
 |.cells _ t frozen=>.cells vs t frozen
 |o=>o
noncomputable def laidWorld(os:Os):World:=
 let w0:=World.holding Tryz.prog os ⟨#[.cells #[.string {data:=#[113,117,105,101,115,99,101,110,116,58,32,116,101,120,116]}] 261,
  .cells #[.string {data:=#[113,117,105,101,115,99,101,110,116,58,32,98,111,117,110,100]}] 261,
  .cells #[.string {data:=#[113,117,105,101,115,99,101,110,116,58,32,115,104,97,112,101]}] 261,
  .cells #[.string {data:=#[113,117,105,101,115,99,101,110,116,58,32,110,97,109,101]}] 261,
  .cells #[.string {data:=#[113,117,105,101,115,99,101,110,116,58,32,110,111,110,101]}] 261,
  .cells #[.string {data:=#[113,117,105,101,115,99,101,110,116,58,32,102,117,108,108]}] 261,
  .cells #[.string {data:=#[113,117,105,101,115,99,101,110,116,58,32,115,116,97,108,101]}] 261,
  .cells #[.string {data:=#[113,117,105,101,115,99,101,110,116,58,32,104,101,108,100]}] 261,
  .cells #[.string {data:=#[113,117,105,101,115,99,101,110,116,58,32,100,111,110,101]}] 261],#[],[]⟩
 {w0 with heap:=((((((((((w0.heap.modify 6 (setVar #[.iface 241 (.pointer (some ⟨low+0,0,none⟩))])).modify 0 (setVar #[.iface 241 (.pointer (some ⟨low+1,0,none⟩))])).modify 7 (setVar #[.iface 241 (.pointer (some ⟨low+2,0,none⟩))])).modify 3 (setVar #[.iface 241 (.pointer (some ⟨low+3,0,none⟩))])).modify 4 (setVar #[.iface 241 (.pointer (some ⟨low+4,0,none⟩))])).modify 8 (setVar #[.iface 241 (.pointer (some ⟨low+5,0,none⟩))])).modify 2 (setVar #[.iface 241 (.pointer (some ⟨low+6,0,none⟩))])).modify 9 (setVar #[.iface 241 (.pointer (some ⟨low+7,0,none⟩))])).modify 1 (setVar #[.iface 241 (.pointer (some ⟨low+8,0,none⟩))])).modify 5 (setVar #[.iface 206 (.agg #[.pointer (some ⟨10,31,none⟩)])]))}
theorem laid_met_machRuns(os:Os)(args:Array Value):laidMetH Tryz.prog Rows.machRunsRow.laid ((laidWorld os).forCall (fun _ _=>0) ⟨#[],args,[]⟩).memory:=
 laidMetH_of_parts (by rw[show (List.filter (fun x:String × DataW Unit=>x.2.handleName?.isNone) Rows.machRunsRow.laid)=Rows.machRunsRow.laid.take 0++Rows.machRunsRow.laid.drop 1 by kernel_rfl];exact laidMet_of_run' 70 (by kernel_rfl) (by kernel_rfl)) (by kernel_rfl)
end
end Go.Proofs.YtciaficoeajeaaaGreatDoor
