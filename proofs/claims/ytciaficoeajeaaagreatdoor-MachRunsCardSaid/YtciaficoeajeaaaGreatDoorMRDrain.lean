/- (*quiescentref1.Memory).Drain. -/
import Derived.Test.YtciaficoeajeaaaGreatDoorMRm3
import Derived.Test.YtciaficoeajeaaaGreatDoorMRm2
import Derived.Test.YtciaficoeajeaaaGreatDoorMRStore
set_option linter.unusedVariables false
set_option linter.unusedSimpArgs false
set_option linter.unusedSectionVars false
set_option maxHeartbeats 2000000
set_option maxRecDepth 100000
namespace Go.Proofs.YtciaficoeajeaaaGreatDoor
open Go.RowKit Qs Qh
variable {K:Nat→Bool}{w:World}{L:Lay}{m:M}{N:Int}
def drainE(cells:List Cell)(x:Wt):Int:=if hereIn cells x.c x.g then 0 else 7
theorem drain_none(R:Rep ty K w L m)(h1:K 1=true)(h3:K 3=true)(om:OkM N m)(ol:OkL L m)(t:Nat)(hl:m.waits[t]?=some []) :
  Calls Tryz.prog 52 #[.pointer (some ⟨L.blk 1 0,0,none⟩),.int .i64 t] w fun e w'=>e=.returned (.int .i64 5)∧w=w':=by
 have ht:t<m.waits.length:=(List.getElem?_eq_some_iff.1 hl).1;have hwl:=om.waits;have hsp3:=ol.sp3;have c0:=R.waits_at h1 ol;have c1:=waits_row R h3 ol hl
 have hrow:∃sa sc,L.row 7 t 0=.slice sa 0 sc:=by
  unfold Lay.row
  cases h:L.nil 7 t with
  |true=>exact ⟨none,0,rfl⟩
  |false=>exact ⟨_,_,rfl⟩
 obtain ⟨sa,sc,hrow⟩:=hrow;rw[List.length_nil,hrow]at c1;clear hrow R om ol hl
 go_enter Tryz.func52,Tryz.ntmps52
 go_wp2;go_ret;exact ⟨rfl,rfl⟩
theorem drain_some(R:Rep ty K w L m)(h1:K 1=true)(h2:K 2=true)(h3:K 3=true)(h6:K 6=true)(h7:K 7=true)(om:OkM N m)(ol:OkL L m)(hN:N≤1000000000000)(t:Nat){x:Wt}{r:List Wt}(hl:m.waits[t]?=some (x :: r)) :
  Calls Tryz.prog 52 #[.pointer (some ⟨L.blk 1 0,0,none⟩),.int .i64 t] w fun e w'=>
   e=.returned (.int .i64 (drainE m.cells x))∧∃L',Up ty K w L m w' L' {m with cells:=(drain1 m.cells x).1,waits:=m.waits.set t r}:=by
 have ht:t<m.waits.length:=(List.getElem?_eq_some_iff.1 hl).1;have hwl:=om.waits;have hsp3:=ol.sp3
 have hr8:r.length+1≤8:=by have:=om.wlen t _ hl;simpa using this
 have c0:=R.waits_at h1 ol;have c1:=waits_row R h3 ol hl;obtain ⟨hn,hb7,g0,g1,g2,g3⟩:=wait_at R h7 ol (i:=0) hl (by rfl);rw[row_some hn]at c1;simp only[Nat.zero_mul,Nat.zero_add,List.length_cons]at c1 g0 g1 g2 g3;have hb1:=R.lt1 h1;have hb3:=R.lt3 h3 ol;have hsp7:=ol.sp7 t _ hl hn
 simp only[List.length_cons]at hsp7;have hsz7:=ol.j7 t;have Hl:=Lib.hid hl;have Hn:=Lib.hid hn;have HR:=Lib.hid R;have Hom:=Lib.hid om;have Hol:=Lib.hid ol;have Hsz7:=Lib.hid hsz7;clear hl hn R om ol hsz7;unfold maxLen at hsp7
 go_enter Tryz.func52,Tryz.ntmps52
 go_wp2;have hW:=HR.out.tail_at h7 Hn.out Hl.out (.cells #[.int .i64 x.c,.int .i64 x.g,.int .i64 x.w,.int .i64 x.v] 179);obtain ⟨i0,hi,hz0,hz1,hz2⟩:=info_parts waitInfo
 have hbnd:0+r.length≤maxLen:=by unfold maxLen;omega
 obtain ⟨ad,had,hW⟩:∃ad,(if r.length+1+L.sp 7 t=1 then some (⟨L.blk 7 t,0,none⟩:Addr)else some ⟨L.blk 7 t,4,none⟩)=some ad∧∀j u,(flat wtVals 0 r)[j]?=some u→(w.alloc (.cells #[.int .i64 x.c,.int .i64 x.g,.int .i64 x.w,.int .i64 x.v] 179)).cell? (ad.add j)=some u:=by
  by_cases h:r.length+1+L.sp 7 t=1
  ·refine ⟨⟨L.blk 7 t,0,none⟩,by rw[if_pos h],?_⟩;have:r=[]:=List.eq_nil_of_length_eq_zero (by omega);subst this;intro j u hj;simp[flat]at hj
  ·exact ⟨⟨L.blk 7 t,4,none⟩,by rw[if_neg h],hW⟩
 have HW:=Lib.hid hW;clear hW
 have hle:(1:Int)≤(r.length:Int)+1:=by omega
 have f3t:=HR.out.free h3 (obj3 ty m Hol.out.n3) t
 go_region_law (refine step_append_mine _ rfl (.tmp 31) (.tmp 39) 127 rfl 179 i0 (.agg #[.int .i64 0,.int .i64 0,.int .i64 0,.int .i64 0]) 4 32 Tryz.underlying127 hi hz0 hz1 hz2 rfl (by decide) (.slice none 0 0) 0 [] rfl (World.ownsRow_nil _ _ _ _) ad r.length (r.length+L.sp 7 t) (flat wtVals 0 r) rfl (flat_length wtVals 4 (fun _ _=>rfl) r 0) (by exact HW.out) (flat_one r 0) hbnd (by omega) ?_;intro v1 w2 hown2 hgr2 hfr2 _;obtain ⟨xa,xb,xc,rfl⟩:=slice_of_own hown2;have hm2:Mod noF w w2:=(((Mod.refl _ w).alloc _).drew).grown hgr2 (fun k hk _=>by cases hk);obtain ⟨d0,d1,d2,e3⟩:=HR.out.heap3 h1 h3 Hol.out hm2 (fun e=>e) (fun e=>e) Hl.out;have He3:=Lib.hid e3;have Hown2:=Lib.hid hown2;have Hfr2:=Lib.hid hfr2;have Hm2:=Lib.hid hm2;clear e3 hown2 hfr2 hm2)
 all_goals
  have hm3:Mod noF (w.alloc (.cells #[.int .i64 x.c,.int .i64 x.g,.int .i64 x.w,.int .i64 x.v] 179)) w2:=((Mod.refl _ _).drew).grown hgr2 (fun k hk _=>by cases hk);have b0:w2.cell? ⟨w.heap.size,0,none⟩=some (.int .i64 x.c):=hm3.cell (by simp) (fun e=>e)
  have b1:w2.cell? ⟨w.heap.size,1,none⟩=some (.int .i64 x.g):=hm3.cell (by simp) (fun e=>e);have b2:w2.cell? ⟨w.heap.size,2,none⟩=some (.int .i64 x.w):=hm3.cell (by simp) (fun e=>e);have b3:w2.cell? ⟨w.heap.size,3,none⟩=some (.int .i64 x.v):=hm3.cell (by simp) (fun e=>e)
  have hs2:w.heap.size<w2.heap.size:=by have:=hm3.size;simp at this;omega
  clear hm3 hgr2
  obtain ⟨L1,hU⟩:=HR.out.rewait (w':=w2.setCell ⟨L.blk 3 0,t,none⟩ (.slice xa xb xc)) h3 h7 Hol.out Hl.out (l':=r) (v':=.slice xa xb xc)
   ((Hm2.out.any).setCell (fun _=>.inl rfl) _) (by rw[Qh.heap_setCell_same He3.out];simp)
   (by
    have e:=Hown2.out;simp only[Nat.zero_add,List.nil_append]at e;refine ownsRow_setCell_other e ?_ _;intro hx
    rcases Hfr2.out _ hx with h|h
    ·cases h
    ·simp at h;omega)
   (fun g' hg'=>by
    rcases Hfr2.out _ hg' with h|h
    ·cases h
    ·simp at h;right;omega)
  have e1:L1.blk 1 0=L.blk 1 0:=(hU.ext.same 1 0 (by omega) (by omega)).1;have hwv:∀y∈x :: r,isWord y.v=true∧0≤y.w∧y.w<4∧0≤y.c∧y.c<m.cells.length∧0≤y.g∧y.g≤N:=Hom.out.wval t _ Hl.out;have om1:OkM N {m with waits:=m.waits.set t r}:=Hom.out.setWaits (by omega) (fun y hy=>hwv y (by simp[hy]))
  have hcall:=here_any hU.rep h1 h2 om1 hU.ok hN x.c x.g;rw[e1]at hcall;obtain ⟨_,w0,w4,_,_,_,_⟩:=hwv x (by simp);have HU:=Lib.hid hU;have Hcall:=Lib.hid hcall;have Hom1:=Lib.hid om1;have E1:=Lib.hid e1;clear hU hcall om1 e1 hwv
  cases hh:hereIn m.cells x.c x.g with
  |false=>
   have Hh:=Lib.hid hh;clear hh
   go_wp2_with (go_at_call 97;refine Hcall.out.mono ?_;rintro e w5 ⟨rfl,hm5⟩;rw[show hereIn _ x.c x.g=false from Hh.out])
   go_ret;refine ⟨ret_int (by unfold drainE;rw[if_neg (by rw[Hh.out];decide)]),L1,?_⟩;rw[show drain1 m.cells x=(m.cells,true)from by unfold drain1;rw[if_neg (by rw[Hh.out];decide)]];exact HU.out.then0 (by assumption)
  |true=>
   obtain ⟨cx,hcx,hc0⟩:∃c,m.cells[x.c.toNat]?=some c∧0≤x.c:=by
    unfold hereIn cellAt at hh
    by_cases h:x.c<0
    ·simp[h]at hh
    ·cases h':m.cells[x.c.toNat]? with
     |none=>simp[h,h']at hh
     |some c=>exact ⟨c,rfl,by omega⟩
   obtain ⟨k,hk⟩:=Int.eq_ofNat_of_zero_le hc0;obtain ⟨j,hj⟩:=Int.eq_ofNat_of_zero_le w0
   have hkt:x.c.toNat=k:=by omega
   have hjt:x.w.toNat=j:=by omega
   rw[hkt]at hcx;have hkl:k<m.cells.length:=(List.getElem?_eq_some_iff.1 hcx).1;have hcl:=Hom.out.cells;have hsp2:=HU.out.ok.sp2;have hwl4:=(Hom.out.words k _ hcx).1;have Hh:=Lib.hid hh;have Hcx:=Lib.hid hcx;have Hkt:=Lib.hid hkt;have Hjt:=Lib.hid hjt;have Hwl4:=Lib.hid hwl4;rw[hk]at b0;rw[hj]at b2
   have Hk:=Lib.hid hk;have Hj:=Lib.hid hj
   have hj4:j<4:=by omega
   clear hh hcx hkt hjt hwl4 hk hj;rw[Hk.out]at Hcall
   go_wp2_with (go_at_call 97;refine Hcall.out.mono ?_;rintro e w5 ⟨rfl,hm5⟩;rw[show hereIn _ (k:Int) x.g=true from by rw[←Hk.out];exact Hh.out])
   have hm5:Mod noF (w2.setCell ⟨L.blk 3 0,t,none⟩ (.slice xa xb xc)) w5:=by assumption
   have R5:=HU.out.rep.frame0 hm5;have q0:=R5.cells_at h1 HU.out.ok;rw[E1.out]at q0;obtain ⟨q1,q2,q3⟩:=R5.cell_at h2 HU.out.ok Hcx.out;have q4:=word_at R5 h6 HU.out.ok (j:=j) Hcx.out (by rw[Hwl4.out];exact hj4)
   have q5:=R5.free h6 (obj6 ty (m:={m with waits:=m.waits.set t r}) (HU.out.ok.n6 k hkl) Hcx.out) j;have b0':=hm5.cell (a:=⟨w.heap.size,0,none⟩) (v:=.int .i64 k) (by rw[World.cell?_setCell_other _ _ _ _ (by intro h;have:=congrArg Addr.block h;simp at this;omega)];exact b0) (fun e=>e)
   have b2':=hm5.cell (a:=⟨w.heap.size,2,none⟩) (v:=.int .i64 j) (by rw[World.cell?_setCell_other _ _ _ _ (by intro h;have:=congrArg Addr.block h;simp at this;omega)];exact b2) (fun e=>e)
   have b3':=hm5.cell (a:=⟨w.heap.size,3,none⟩) (v:=.int .i64 x.v) (by rw[World.cell?_setCell_other _ _ _ _ (by intro h;have:=congrArg Addr.block h;simp at this;omega)];exact b3) (fun e=>e);rw[Hwl4.out]at q1;have hsp6:4+L1.sp 6 k=4+L1.sp 6 k:=rfl;clear hsp6;have Hm5:=Lib.hid hm5;have HR5:=Lib.hid R5
   clear hm5 R5
   go_region
   all_goals go_wp2
   go_ret;refine ⟨ret_int (by unfold drainE;rw[if_pos Hh.out]),L1,?_⟩;rw[show drain1 m.cells x=(Qs.setWord m.cells k j x.v,false)from by unfold drain1;rw[if_pos Hh.out,Hkt.out,Hjt.out]];have U6:=HR5.out.setWord h6 HU.out.ok (i:=k) (j:=j) Hcx.out (by rw[Hwl4.out];exact hj4) x.v
   exact ((HU.out.then0 Hm5.out).trans U6).then0 ((Mod.refl _ _).drew)
end Go.Proofs.YtciaficoeajeaaaGreatDoor
