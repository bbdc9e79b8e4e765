/- (*quiescentref1.Memory).Store, where it stores. -/
import Derived.Test.YtciaficoeajeaaaGreatDoorMRm3
import Derived.Test.YtciaficoeajeaaaGreatDoorMRm2
set_option linter.unusedVariables false
set_option linter.unusedSimpArgs false
set_option linter.unusedSectionVars false
set_option maxHeartbeats 1000000
set_option maxRecDepth 100000
namespace Go.Proofs.YtciaficoeajeaaaGreatDoor
open Go.RowKit Qs Qh
variable {K:Nat→Bool}{w:World}{L:Lay}{m:M}{N:Int}
theorem waitInfo:(Tryz.prog.info? 179).map (fun i=>(i.zero,i.size,i.bytes))=some (some (.agg #[.int .i64 0,.int .i64 0,.int .i64 0,.int .i64 0]),4,32):=by kernel_rfl
theorem store_ok(R:Rep ty K w L m)(h1:K 1=true)(h2:K 2=true)(h3:K 3=true)(h7:K 7=true)(om:OkM N m)(ol:OkL L m)(hN:N≤1000000000000)(t:Nat)(c g wd v:Int)
  {l:List Wt} (hl:m.waits[t]?=some l) (hl8:l.length<8) (he:atE m.cells c g wd=0) (hv:isWord v=true) :
  Calls Tryz.prog 53 #[.pointer (some ⟨L.blk 1 0,0,none⟩),.int .i64 t,.agg #[.int .i64 c,.int .i64 g],.int .i64 wd,.int .i64 v] w fun e w'=>
   e=.returned (.int .i64 0)∧∃L',Up ty K w L m w' L' {m with waits:=m.waits.set t (l++[⟨c,g,wd,v⟩])}:=by
 have ht:t<m.waits.length:=(List.getElem?_eq_some_iff.1 hl).1;have hwl:=om.waits;have hsp3:=ol.sp3;have hb1:=R.lt1 h1;have hb3:=R.lt3 h3 ol;have hne:L.blk 1 0≠L.blk 3 0:=R.ne h1 h3 rfl (by rw[obj3 ty m ol.n3];rfl) (by omega);have He:=Lib.hid he;have Hv:=Lib.hid hv;have Hl:=Lib.hid hl
 have HR:=Lib.hid R;have Hom:=Lib.hid om;have Hol:=Lib.hid ol;clear he hv hl R om ol
 go_enter Tryz.func53,Tryz.ntmps53
 go_wp2_with fail
 refine (at_any (HR.out.frame0 ((Mod.refl _ _).alloc _)) h1 h2 Hom.out Hol.out hN c g wd).mono ?_;rintro e w1 ⟨rfl,hm⟩;rw[He.out];have hm1:Mod noF w w1:=((Mod.refl _ _).alloc _).trans0 hm;have hr0:w1.cell? ⟨w.heap.size,0,none⟩=some (.int .i64 c):=hm.cell (by simp) (fun e=>e)
 have hr1:w1.cell? ⟨w.heap.size,1,none⟩=some (.int .i64 g):=hm.cell (by simp) (fun e=>e)
 have hs1:w.heap.size<w1.heap.size:=by have:=hm.size;simp at this;omega
 have Hm1:=Lib.hid hm1;clear hm hm1;have R1:=HR.out.frame0 Hm1.out;have HR1:=Lib.hid R1;have c0:=R1.waits_at h1 Hol.out;have c1:=waits_row R1 h3 Hol.out Hl.out
 have hrow:∃sa sb sc,L.row 7 t l.length=.slice sa sb sc∧sb=l.length:=by
  unfold Lay.row
  cases h:L.nil 7 t with
  |true=>exact ⟨none,0,0,rfl,by rw[Hol.out.n7 t l Hl.out h];rfl⟩
  |false=>exact ⟨_,_,_,rfl,rfl⟩
 obtain ⟨sa,sb,sc,hrow,rfl⟩:=hrow;have hown:=R1.owns7 h7 Hol.out Hl.out;rw[hrow]at c1 hown;have f3:=fun j=>R1.free h3 (obj3 ty m Hol.out.n3) j;have f3t:=f3 t
 have hb3':L.blk 3 0<w1.heap.size:=by have:=Hm1.out.size;omega
 have hb1':L.blk 1 0<w1.heap.size:=by have:=Hm1.out.size;omega
 have Hrow:=Lib.hid hrow;have Hown:=Lib.hid hown;clear R1 hrow hown f3;obtain ⟨i0,hi,hz0,hz1,hz2⟩:=info_parts waitInfo
 have hbnd:(l.length+1)≤maxLen:=by unfold maxLen;omega
 go_wp2_with (go_at_call 99;refine (isWord_any _ _).mono ?_;rintro e w' ⟨rfl,rfl⟩;rw[Hv.out])
 go_region_law (refine step_append_mine _ rfl (.tmp 45) (.tmp 50) 127 rfl 179 i0 (.agg #[.int .i64 0,.int .i64 0,.int .i64 0,.int .i64 0]) 4 32 Tryz.underlying127 hi hz0 hz1 hz2 rfl (by decide) _ l.length (flat wtVals 0 l) rfl (by exact Hown.out.alloc _) ⟨w1.heap.size,0,none⟩ 1 1 [.int .i64 c,.int .i64 g,.int .i64 wd,.int .i64 v] rfl rfl (new_cells w1 _ _) (ints_one [c,g,wd,v]) hbnd (by omega) ?_;intro v1 w2 hown2 hgr2 hfr2 _)
 all_goals
  have hmod2:Mod (fun x=>L.nil 7 t=false∧x=L.blk 7 t) w1 w2:=(((Mod.refl _ w1).alloc _).drew).grown hgr2 (fun k hk _=>row_own (by rw[Hrow.out];exact hk))
  obtain ⟨d0,d1,d2,e3⟩:=HR1.out.heap3 h1 h3 Hol.out hmod2 (fun h=>HR1.out.ne h1 h7 rfl (by rw[obj7 ty h.1 Hl.out];rfl) (by omega) h.2) (fun h=>HR1.out.ne h3 h7 (by rw[obj3 ty m Hol.out.n3];rfl) (by rw[obj7 ty h.1 Hl.out];rfl) (by omega) h.2) Hl.out;rw[Hrow.out]at d1
  obtain ⟨xa,xb,xc,rfl⟩:=slice_of_own hown2;have He3:=Lib.hid e3;have Hown2:=Lib.hid hown2;have Hfr2:=Lib.hid hfr2;have Hmod2:=Lib.hid hmod2;clear hmod2 e3 hown2 hgr2 hfr2;go_wp2;go_ret;refine ⟨rfl,HR.out.rewait h3 h7 Hol.out Hl.out (l':=l++[⟨c,g,wd,v⟩]) (v':=.slice xa xb xc) ?_ ?_ ?_ ?_⟩
  ·exact (Hm1.out.any.trans (Hmod2.out.mono fun x _ hx=>.inr hx) (fun x _ hx=>hx)).setCell (fun _=>.inl rfl) _
  ·rw[Qh.heap_setCell_same He3.out];simp
  ·have e:flat wtVals 0 (l++[⟨c,g,wd,v⟩])=flat wtVals 0 l++[.int .i64 c,.int .i64 g,.int .i64 wd,.int .i64 v]:=by
    have:∀(l:List Wt) (s:Nat),flat wtVals s (l++[⟨c,g,wd,v⟩])=flat wtVals s l++[.int .i64 c,.int .i64 g,.int .i64 wd,.int .i64 v]:=by
     intro l
     induction l with
     |nil=>intro s;rfl
     |cons x l ih=>intro s;simp[flat,ih]
    exact this l 0
   rw[e,List.length_append];refine ownsRow_setCell_other Hown2.out ?_ _;intro hx
   rcases Hfr2.out _ hx with h|h
   ·have:=row_own (L:=L) (k:=7) (i:=t) (n:=l.length) (by rw[Hrow.out];exact h);exact HR1.out.ne h3 h7 (by rw[obj3 ty m Hol.out.n3];rfl) (by rw[obj7 ty this.1 Hl.out];rfl) (by omega) this.2
   ·simp at h;omega
  ·intro g' hg'
   rcases Hfr2.out _ hg' with h|h
   ·exact .inl (row_own (by rw[Hrow.out];exact h))
   ·simp at h;right;have:=Hm1.out.size;omega
end Go.Proofs.YtciaficoeajeaaaGreatDoor
