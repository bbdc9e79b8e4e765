/- quiescentlaw3.top, chain: what stands in the queue, read. -/
import Derived.Test.YtppihkneeolomaaGreatDoorSSm9
import Derived.Test.YtppihkneeolomaaGreatDoorSSm3
import Derived.Deep.QuietTactic
import Derived.BigQuiet
set_option linter.unusedVariables false
set_option linter.unusedSimpArgs false
set_option linter.unusedSectionVars false
set_option maxHeartbeats 8000000
namespace Go.Proofs.YtppihkneeolomaaGreatDoor
open Go.RowKit Qs Qh Qg
variable {w w':World}{L:Lay}{m:M}{N:Int}
theorem here_facts{x:Int}(h:(absM m).here x=true):∃y,m.cells[celOf x]?=some y∧refV x=((celOf x:Int),(x - 1)/64,0)∧atE m.cells (celOf x:Int) ((x - 1)/64) 0=0∧0<x∧x<4294967296:=by
 obtain ⟨h1,h2,y,hy,hh,hg⟩:=abs_here.1 h
 have hc:(celOf x:Int)=(x - 1) % 64:=by unfold celOf;omega
 refine ⟨y,hy,?_,?_,h1,h2⟩
 ·have hs:(m.names x).isSome=true:=h;obtain ⟨⟨c,g⟩,hn⟩:=Option.isSome_iff_exists.1 hs;have:=(names_some.1 hn).1;unfold refV
  have h0:x≠0:=by omega
  have hw:isWord x=true:=by unfold isWord W32;simp;omega
  simp[refOf,h0,hw,hc]
 ·unfold atE;rw[if_pos (hereIn_iff.2 ⟨by omega,y,by simpa using hy,hh,hg⟩),if_pos (by omega)]
theorem top_ok(X:Mach ty w L m N)(hN:N≤1000000)(q:Int)(hr:(absM m).reg 0 5=q)(hq:(absM m).here q=true)(hT:0<m.T.length) :
  Calls Tryz.prog 21 #[.pointer (some ⟨L.blk 0 0,0,none⟩)] w fun e w'=>(∃c,e=.returned (.tuple #[.slice (some ⟨L.blk 6 (celOf q),0,none⟩) 4 c,.bool true]))∧Mod noF w w':=by
 obtain ⟨y,hy,hrf,hat,hq0,hq1⟩:=here_facts hq;have hh:=X.head
 have h0:w.cell? ⟨L.blk 0 0,0,none⟩=some (.pointer (some ⟨L.blk 1 0,0,none⟩)):=by rw[cell_of_heap hh];rfl
 have h1:w.cell? ⟨L.blk 0 0,1,none⟩=some (L.row 4 0 m.T.length):=by rw[cell_of_heap hh];rfl
 rw[row_some X.olt.n4]at h1;obtain ⟨t0,ht0⟩:∃t0,m.T[0]?=some t0:=⟨_,List.getElem?_eq_getElem hT⟩;obtain ⟨-,k1,-,-,-⟩:=X.thr_at ht0;have hregs:=X.ot.regs 0 t0 ht0
 have hr5:t0.regs.getD 5 0=q:=by
  have e:(m.thr 0).regs.getD 5 0=q:=hr
  have e2:m.thr 0=t0:=by unfold M.thr;rw[List.getD_eq_getElem?_getD,ht0];rfl
  rw[e2]at e;exact e
 have k5:w.cell? ⟨L.blk 8 0,5,none⟩=some (.int .i64 q):=by
  have ho:=obj8 ty (X.olt.n8 0 hT) ht0;rw[X.rep.cell rfl ho,List.getElem?_append_left (by simp[hregs.1])];rw[List.getElem?_map,List.getElem?_eq_getElem (by omega)];rw[←hr5,List.getD_eq_getElem?_getD,List.getElem?_eq_getElem (by omega)];rfl
 have hi:=(List.getElem?_eq_some_iff.1 hy).1;have c1:=X.rep.cells_at rfl X.ol;obtain ⟨c2,-,-⟩:=X.rep.cell_at rfl X.ol hy;have hw4:=(X.om.words _ y hy).1;rw[hw4]at c2
 have hcell:(celOf q:Int)<(m.cells.length:Int):=by omega
 have Hrf:=Lib.hid hrf;have Hat:=Lib.hid hat;have HX:=Lib.hid X;have hlen64:=X.om.cells
 have hT6:(0:Int)<(m.T.length:Int):=by omega
 simp only[Nat.zero_mul,Nat.zero_add]at k1;generalize hce:celOf q=ce at *;clear hh hr hr5 hregs ht0 hrf hat hq hy hce hw4 X
 go_enter Tryz.func21,Tryz.ntmps21
 go_wp2_with fail
 refine (refOf_any q _ (by omega) (by omega)).mono ?_;rintro e w1 ⟨rfl,hm1⟩;rw[Hrf.out];have Hm1:=Lib.hid hm1;go_wp2
 go_name_world wn hwn
 have hmn:Mod noF w wn:=by rw[←hwn];exact hm1.alloc _
 have r0:wn.cell? ⟨w1.heap.size,0,none⟩=some (.int .i64 ce):=by rw[←hwn];simp
 have r1:wn.cell? ⟨w1.heap.size,1,none⟩=some (.int .i64 ((q - 1)/64)):=by rw[←hwn];simp
 have g0:=hmn.cell h0 (fun e=>e);have Hmn:=Lib.hid hmn;clear hwn hmn hm1
 go_region_with (go_at_call 35;refine (at_any (HX.out.rep.frame0 (Hmn.out.trans0 (Mod.refl _ _).drew)) rfl rfl HX.out.om HX.out.ol (by omega) _ _ 0).mono ?_;rintro e w5 ⟨rfl,hm5⟩;rw[Hat.out])
 all_goals
  have hm6:=Hmn.out.trans0 (((Mod.refl noF wn).drew).trans0 hm5);have b0:=hm6.cell h0 (fun e=>e);have b1:=hm6.cell c1 (fun e=>e);have b2:=hm6.cell c2 (fun e=>e);have b3:=hm5.cell r0 (fun e=>e);have Hm6:=Lib.hid hm6;clear hm6 hm5;go_wp2
  go_quiet (fail)
  go_wp2;go_ret2;exact ⟨⟨_,rfl⟩,by repeat (first|exact Hm6.out|refine Mod.drew ?_|refine Mod.drewN ?_ _)⟩
structure NodeAt(w:World)(L:Lay)(m:M)(x:Int):Prop where
 rf:refV x=((celOf x:Int),(x - 1)/64,0)
 at_:atE m.cells (celOf x:Int) ((x - 1)/64) 0=0
 lo:0<x
 hi:x<4294967296
 lt:celOf x<m.cells.length
 cell:∃c,w.cell? ⟨L.blk 2 0,celOf x*3,none⟩=some (.slice (some ⟨L.blk 6 (celOf x),0,none⟩) 4 c)
 w0:w.cell? ⟨L.blk 6 (celOf x),0,none⟩=some (.int .i64 ((absM m).val x 0))
 w1:w.cell? ⟨L.blk 6 (celOf x),1,none⟩=some (.int .i64 ((absM m).val x 1))
theorem node_at(X:Mach ty w L m N){x:Int}(h:(absM m).here x=true):NodeAt w L m x:=by
 obtain ⟨y,hy,hrf,hat,h0,h1⟩:=here_facts h;have hw4:=(X.om.words _ y hy).1;obtain ⟨c2,-,-⟩:=X.rep.cell_at rfl X.ol hy;rw[hw4]at c2
 have hv:∀j,(absM m).val x j=y.words.getD j 0:=fun j=>by
  rw[abs_val h];unfold getWord;rw[hy];rfl
 refine ⟨hrf,hat,h0,h1,(List.getElem?_eq_some_iff.1 hy).1,⟨_,c2⟩,?_,?_⟩
 ·rw[hv 0];exact word_at X.rep rfl X.ol hy (by omega)
 ·rw[hv 1];exact word_at X.rep rfl X.ol hy (by omega)
end Go.Proofs.YtppihkneeolomaaGreatDoor
